/- Go functions of this seat as plain Lean functions, each with a proof that its call comes to just what that function says, wherever that function says anything: written by a program of this session. -/
import Derived.Test.YtnmmhfpekeeedaaPCx0
import Derived.Test.YtnmmhfpekeeedaaPCx4
import Derived.Test.YtnmmhfpekeeedaaPCx5
import Derived.Test.YtnmmhfpekeeedaaPCx9
namespace Go.Proofs.Ytnmmhfpekeeedaa.PC
open Go.RowKit Go.Proofs.YtnmmhfpekeeedaaW.PrintWords Go.Proofs.YtnmmhfpekeeedaaW.PrintLast Go.Proofs.YtnmmhfpekeeedaaW.PrintMore
attribute [local go_sem] max2_int min2_int max_two min_two max_three min_three max_four min_four   -- for this text's walks alone
set_option linter.unusedVariables false
set_option linter.unusedSimpArgs false

attribute [local go_sem] isSome_setCell
/-! ### regimenlaw13_CursorNobody: function 7 -/
/-- Nobody's cursor: a nil one, or one that New did not give. -/
def regimenlaw13_CursorNobody.nob (w : World) (v : Value) : Prop := v = .pointer none ∨ ∃ b, v = .pointer (some ⟨b, 0, none⟩) ∧ b < w.heap.size ∧ w.cell? ⟨b, 0, none⟩ = some (.bool false)
theorem regimenlaw13_CursorNobody.nob_below {w W : World} {v : Value} (h : regimenlaw13_CursorNobody.nob w v) (hb : Below w.heap.size w W) : regimenlaw13_CursorNobody.nob W v := by
  rcases h with rfl | ⟨b, rfl, h1, h2⟩
  · exact .inl rfl
  · exact .inr ⟨b, rfl, Nat.lt_of_lt_of_le h1 hb.size, by rw [hb.cell (p := ⟨b, 0, none⟩) h1]; exact h2⟩
theorem regimenlaw13_CursorNobody.bset {w W : World} {b o : Nat} {v : Value} (h : Below w.heap.size w W) (hb : w.heap.size ≤ b) : Below w.heap.size w (W.setCell ⟨b, o, none⟩ v) := h.setCell hb v
set_option maxHeartbeats 4000000 in
set_option maxRecDepth 100000 in
theorem regimenlaw13_CursorNobody.ok (v : Value) (w : World) (h : regimenlaw13_CursorNobody.nob w v) : Calls Try.prog 58 #[v] w fun e w' => e = .returned (.bool false) ∧ w' = w := by
  rcases h with rfl | ⟨b, rfl, h1, h2⟩
  · go_enter Try.func58, Try.ntmps58
    go_wp2
    go_ret
    exact ⟨rfl, rfl⟩
  · go_enter Try.func58, Try.ntmps58
    go_wp2
    go_ret
    exact ⟨rfl, rfl⟩
set_option maxHeartbeats 4000000 in
set_option maxRecDepth 100000 in
theorem regimenlaw13_CursorNobody.peek (v : Value) (w : World) (h : regimenlaw13_CursorNobody.nob w v) : Calls Try.prog 22 #[v] w fun e w' => e = .returned (.agg #[.int .i64 0, .string ⟨#[]⟩, .int .i64 0, .int .i64 0]) ∧ Below w.heap.size w w' := by
  have HN := Aside0.mk h
  have HB := Aside0.mk (Below.refl w.heap.size w)
  clear h
  go_enter Try.func22, Try.ntmps22
  go_wp2_with (first | (go_at_call 58; refine (regimenlaw13_CursorNobody.ok _ _ (regimenlaw13_CursorNobody.nob_below HN.out (by (repeat (first | exact HB.out | exact Below.refl _ _ | refine regimenlaw13_CursorNobody.bset ?_ (by have := HB.out.size; (try simp); omega) | apply below_alloc | apply pw_below_drewN | apply below_drew1))))).mono ?_; rintro e wn ⟨rfl, rfl⟩))
  exact bodyPost_ret (v := (.agg #[.int .i64 0, .string ⟨#[]⟩, .int .i64 0, .int .i64 0])) (by simp [results, Try.results22, go_sem]) rfl ⟨rfl, by (repeat (first | exact HB.out | exact Below.refl _ _ | refine regimenlaw13_CursorNobody.bset ?_ (by have := HB.out.size; (try simp); omega) | apply below_alloc | apply pw_below_drewN | apply below_drew1))⟩
set_option maxHeartbeats 4000000 in
set_option maxRecDepth 100000 in
theorem regimenlaw13_CursorNobody.fail (v : Value) (e0 : Int) (w : World) (h : regimenlaw13_CursorNobody.nob w v) : Calls Try.prog 19 #[v, .int .i64 e0] w fun e w' => e = .returned (.tuple #[]) ∧ Below w.heap.size w w' := by
  have HN := Aside0.mk h
  have HB := Aside0.mk (Below.refl w.heap.size w)
  clear h
  go_enter Try.func19, Try.ntmps19
  go_wp2_with (first | (go_at_call 58; refine (regimenlaw13_CursorNobody.ok _ _ (regimenlaw13_CursorNobody.nob_below HN.out (by (repeat (first | exact HB.out | exact Below.refl _ _ | refine regimenlaw13_CursorNobody.bset ?_ (by have := HB.out.size; (try simp); omega) | apply below_alloc | apply pw_below_drewN | apply below_drew1))))).mono ?_; rintro e wn ⟨rfl, rfl⟩))
  go_end0
  exact ⟨rfl, by (repeat (first | exact HB.out | exact Below.refl _ _ | refine regimenlaw13_CursorNobody.bset ?_ (by have := HB.out.size; (try simp); omega) | apply below_alloc | apply pw_below_drewN | apply below_drew1))⟩
set_option maxHeartbeats 4000000 in
set_option maxRecDepth 100000 in
theorem regimenlaw13_CursorNobody.take (v : Value) (kd : Int) (tx : ByteArray) (w : World) (h : regimenlaw13_CursorNobody.nob w v) : Calls Try.prog 23 #[v, .int .i64 kd, .string tx] w fun e w' => e = .returned (.bool false) ∧ Below w.heap.size w w' := by
  have HN := Aside0.mk h
  have HB := Aside0.mk (Below.refl w.heap.size w)
  clear h
  go_enter Try.func23, Try.ntmps23
  go_wp2_with (first | (go_at_call 58; refine (regimenlaw13_CursorNobody.ok _ _ (regimenlaw13_CursorNobody.nob_below HN.out (by (repeat (first | exact HB.out | exact Below.refl _ _ | refine regimenlaw13_CursorNobody.bset ?_ (by have := HB.out.size; (try simp); omega) | apply below_alloc | apply pw_below_drewN | apply below_drew1))))).mono ?_; rintro e wn ⟨rfl, rfl⟩) | (go_at_call 22; refine (regimenlaw13_CursorNobody.peek _ _ (regimenlaw13_CursorNobody.nob_below HN.out (by (repeat (first | exact HB.out | exact Below.refl _ _ | refine regimenlaw13_CursorNobody.bset ?_ (by have := HB.out.size; (try simp); omega) | apply below_alloc | apply pw_below_drewN | apply below_drew1))))).mono ?_; rintro e wn ⟨rfl, hb⟩; have n0_ := Aside0.mk (below_step (by (repeat (first | exact HB.out | exact Below.refl _ _ | refine regimenlaw13_CursorNobody.bset ?_ (by have := HB.out.size; (try simp); omega) | apply below_alloc | apply pw_below_drewN | apply below_drew1))) hb); clear HB hb; have HB := n0_; clear n0_))
  go_ret
  exact ⟨rfl, by (repeat (first | exact HB.out | exact Below.refl _ _ | refine regimenlaw13_CursorNobody.bset ?_ (by have := HB.out.size; (try simp); omega) | apply below_alloc | apply pw_below_drewN | apply below_drew1))⟩
set_option maxHeartbeats 4000000 in
set_option maxRecDepth 100000 in
theorem regimenlaw13_CursorNobody.want (v : Value) (kd : Int) (tx : ByteArray) (w : World) (h : regimenlaw13_CursorNobody.nob w v) : Calls Try.prog 20 #[v, .int .i64 kd, .string tx] w fun e w' => e = .returned (.tuple #[]) ∧ Below w.heap.size w w' := by
  have HN := Aside0.mk h
  have HB := Aside0.mk (Below.refl w.heap.size w)
  clear h
  go_enter Try.func20, Try.ntmps20
  go_wp2_with (first | (go_at_call 23; refine (regimenlaw13_CursorNobody.take _ _ _ _ (regimenlaw13_CursorNobody.nob_below HN.out (by (repeat (first | exact HB.out | exact Below.refl _ _ | refine regimenlaw13_CursorNobody.bset ?_ (by have := HB.out.size; (try simp); omega) | apply below_alloc | apply pw_below_drewN | apply below_drew1))))).mono ?_; rintro e wn ⟨rfl, hb⟩; have n0_ := Aside0.mk (below_step (by (repeat (first | exact HB.out | exact Below.refl _ _ | refine regimenlaw13_CursorNobody.bset ?_ (by have := HB.out.size; (try simp); omega) | apply below_alloc | apply pw_below_drewN | apply below_drew1))) hb); clear HB hb; have HB := n0_; clear n0_) | (go_at_call 19; refine (regimenlaw13_CursorNobody.fail _ _ _ (regimenlaw13_CursorNobody.nob_below HN.out (by (repeat (first | exact HB.out | exact Below.refl _ _ | refine regimenlaw13_CursorNobody.bset ?_ (by have := HB.out.size; (try simp); omega) | apply below_alloc | apply pw_below_drewN | apply below_drew1))))).mono ?_; rintro e wn ⟨rfl, hb⟩; have n0_ := Aside0.mk (below_step (by (repeat (first | exact HB.out | exact Below.refl _ _ | refine regimenlaw13_CursorNobody.bset ?_ (by have := HB.out.size; (try simp); omega) | apply below_alloc | apply pw_below_drewN | apply below_drew1))) hb); clear HB hb; have HB := n0_; clear n0_))
  go_end0
  exact ⟨rfl, by (repeat (first | exact HB.out | exact Below.refl _ _ | refine regimenlaw13_CursorNobody.bset ?_ (by have := HB.out.size; (try simp); omega) | apply below_alloc | apply pw_below_drewN | apply below_drew1))⟩
set_option maxHeartbeats 4000000 in
set_option maxRecDepth 100000 in
theorem regimenlaw13_CursorNobody.fault (v : Value) (w : World) (h : regimenlaw13_CursorNobody.nob w v) : Calls Try.prog 21 #[v] w fun e w' => e = .returned (.tuple #[.agg #[.int .i64 0, .int .i64 0], .int .i64 10]) ∧ Below w.heap.size w w' := by
  have HB := Aside0.mk (Below.refl w.heap.size w)
  rcases h with rfl | ⟨b, rfl, h1, h2⟩
  · go_enter Try.func21, Try.ntmps21
    go_wp2
    exact bodyPost_ret (v := (.tuple #[.agg #[.int .i64 0, .int .i64 0], .int .i64 10])) (by simp [results, Try.results21, go_sem]) rfl ⟨rfl, by (repeat (first | exact HB.out | exact Below.refl _ _ | refine regimenlaw13_CursorNobody.bset ?_ (by have := HB.out.size; (try simp); omega) | apply below_alloc | apply pw_below_drewN | apply below_drew1))⟩
  · go_enter Try.func21, Try.ntmps21
    go_wp2
    exact bodyPost_ret (v := (.tuple #[.agg #[.int .i64 0, .int .i64 0], .int .i64 10])) (by simp [results, Try.results21, go_sem]) rfl ⟨rfl, by (repeat (first | exact HB.out | exact Below.refl _ _ | refine regimenlaw13_CursorNobody.bset ?_ (by have := HB.out.size; (try simp); omega) | apply below_alloc | apply pw_below_drewN | apply below_drew1))⟩
theorem regimenlaw13_CursorNobody.fld0 (a : Int) (b : ByteArray) (c d : Int) (w : World) : Sem.run Try.prog (Instr.field 34 (Value.agg #[Value.int IntKind.i64 a, Value.string b, Value.int IntKind.i64 c, Value.int IntKind.i64 d]) 0) w = .ok (.int .i64 a) w := by kernel_rfl
theorem regimenlaw13_CursorNobody.fld1 (a : Int) (b : ByteArray) (c d : Int) (w : World) : Sem.run Try.prog (Instr.field 34 (Value.agg #[Value.int IntKind.i64 a, Value.string b, Value.int IntKind.i64 c, Value.int IntKind.i64 d]) 1) w = .ok (.string b) w := by kernel_rfl
attribute [local go_sem] regimenlaw13_CursorNobody.fld0 regimenlaw13_CursorNobody.fld1
set_option maxHeartbeats 4000000 in
set_option maxRecDepth 100000 in
theorem regimenlaw13_CursorNobody.said (v : Value) (kd wr : Int) (w : World) (h : regimenlaw13_CursorNobody.nob w v) : Calls Try.prog 61 #[v, .int .i64 kd, .int .i64 wr] w fun e w' => e = .returned (.bool false) ∧ Below w.heap.size w w' := by
  have HN := Aside0.mk h
  have HB := Aside0.mk (Below.refl w.heap.size w)
  clear h
  by_cases c : kd = 0
  · subst c
    by_cases d : wr = 0
    · subst d
      go_enter Try.func61, Try.ntmps61
      go_wp2_with (first | (go_at_call 58; refine (regimenlaw13_CursorNobody.ok _ _ (regimenlaw13_CursorNobody.nob_below HN.out (by (repeat (first | exact HB.out | exact Below.refl _ _ | refine regimenlaw13_CursorNobody.bset ?_ (by have := HB.out.size; (try simp); omega) | apply below_alloc | apply pw_below_drewN | apply below_drew1))))).mono ?_; rintro e wn ⟨rfl, rfl⟩) | (go_at_call 22; refine (regimenlaw13_CursorNobody.peek _ _ (regimenlaw13_CursorNobody.nob_below HN.out (by (repeat (first | exact HB.out | exact Below.refl _ _ | refine regimenlaw13_CursorNobody.bset ?_ (by have := HB.out.size; (try simp); omega) | apply below_alloc | apply pw_below_drewN | apply below_drew1))))).mono ?_; rintro e wn ⟨rfl, hb⟩; have n0_ := Aside0.mk (below_step (by (repeat (first | exact HB.out | exact Below.refl _ _ | refine regimenlaw13_CursorNobody.bset ?_ (by have := HB.out.size; (try simp); omega) | apply below_alloc | apply pw_below_drewN | apply below_drew1))) hb); clear HB hb; have HB := n0_; clear n0_) | (go_at_call 19; refine (regimenlaw13_CursorNobody.fail _ _ _ (regimenlaw13_CursorNobody.nob_below HN.out (by (repeat (first | exact HB.out | exact Below.refl _ _ | refine regimenlaw13_CursorNobody.bset ?_ (by have := HB.out.size; (try simp); omega) | apply below_alloc | apply pw_below_drewN | apply below_drew1))))).mono ?_; rintro e wn ⟨rfl, hb⟩; have n0_ := Aside0.mk (below_step (by (repeat (first | exact HB.out | exact Below.refl _ _ | refine regimenlaw13_CursorNobody.bset ?_ (by have := HB.out.size; (try simp); omega) | apply below_alloc | apply pw_below_drewN | apply below_drew1))) hb); clear HB hb; have HB := n0_; clear n0_))
      go_ret
      exact ⟨rfl, by (repeat (first | exact HB.out | exact Below.refl _ _ | refine regimenlaw13_CursorNobody.bset ?_ (by have := HB.out.size; (try simp); omega) | apply below_alloc | apply pw_below_drewN | apply below_drew1))⟩
    · have d1 : (wr == 0) = false := beq_eq_false_iff_ne.mpr d
      have d2 : (wr != 0) = true := bne_iff_ne.mpr d
      go_enter Try.func61, Try.ntmps61
      go_wp2_with (first | (go_at_call 58; refine (regimenlaw13_CursorNobody.ok _ _ (regimenlaw13_CursorNobody.nob_below HN.out (by (repeat (first | exact HB.out | exact Below.refl _ _ | refine regimenlaw13_CursorNobody.bset ?_ (by have := HB.out.size; (try simp); omega) | apply below_alloc | apply pw_below_drewN | apply below_drew1))))).mono ?_; rintro e wn ⟨rfl, rfl⟩) | (go_at_call 22; refine (regimenlaw13_CursorNobody.peek _ _ (regimenlaw13_CursorNobody.nob_below HN.out (by (repeat (first | exact HB.out | exact Below.refl _ _ | refine regimenlaw13_CursorNobody.bset ?_ (by have := HB.out.size; (try simp); omega) | apply below_alloc | apply pw_below_drewN | apply below_drew1))))).mono ?_; rintro e wn ⟨rfl, hb⟩; have n0_ := Aside0.mk (below_step (by (repeat (first | exact HB.out | exact Below.refl _ _ | refine regimenlaw13_CursorNobody.bset ?_ (by have := HB.out.size; (try simp); omega) | apply below_alloc | apply pw_below_drewN | apply below_drew1))) hb); clear HB hb; have HB := n0_; clear n0_) | (go_at_call 19; refine (regimenlaw13_CursorNobody.fail _ _ _ (regimenlaw13_CursorNobody.nob_below HN.out (by (repeat (first | exact HB.out | exact Below.refl _ _ | refine regimenlaw13_CursorNobody.bset ?_ (by have := HB.out.size; (try simp); omega) | apply below_alloc | apply pw_below_drewN | apply below_drew1))))).mono ?_; rintro e wn ⟨rfl, hb⟩; have n0_ := Aside0.mk (below_step (by (repeat (first | exact HB.out | exact Below.refl _ _ | refine regimenlaw13_CursorNobody.bset ?_ (by have := HB.out.size; (try simp); omega) | apply below_alloc | apply pw_below_drewN | apply below_drew1))) hb); clear HB hb; have HB := n0_; clear n0_))
      go_ret
      exact ⟨rfl, by (repeat (first | exact HB.out | exact Below.refl _ _ | refine regimenlaw13_CursorNobody.bset ?_ (by have := HB.out.size; (try simp); omega) | apply below_alloc | apply pw_below_drewN | apply below_drew1))⟩
  · have c1 : ((0 : Int) == kd) = false := beq_eq_false_iff_ne.mpr (Ne.symm c)
    have c2 : ((0 : Int) != kd) = true := bne_iff_ne.mpr (Ne.symm c)
    go_enter Try.func61, Try.ntmps61
    go_wp2_with (first | (go_at_call 58; refine (regimenlaw13_CursorNobody.ok _ _ (regimenlaw13_CursorNobody.nob_below HN.out (by (repeat (first | exact HB.out | exact Below.refl _ _ | refine regimenlaw13_CursorNobody.bset ?_ (by have := HB.out.size; (try simp); omega) | apply below_alloc | apply pw_below_drewN | apply below_drew1))))).mono ?_; rintro e wn ⟨rfl, rfl⟩) | (go_at_call 22; refine (regimenlaw13_CursorNobody.peek _ _ (regimenlaw13_CursorNobody.nob_below HN.out (by (repeat (first | exact HB.out | exact Below.refl _ _ | refine regimenlaw13_CursorNobody.bset ?_ (by have := HB.out.size; (try simp); omega) | apply below_alloc | apply pw_below_drewN | apply below_drew1))))).mono ?_; rintro e wn ⟨rfl, hb⟩; have n0_ := Aside0.mk (below_step (by (repeat (first | exact HB.out | exact Below.refl _ _ | refine regimenlaw13_CursorNobody.bset ?_ (by have := HB.out.size; (try simp); omega) | apply below_alloc | apply pw_below_drewN | apply below_drew1))) hb); clear HB hb; have HB := n0_; clear n0_) | (go_at_call 19; refine (regimenlaw13_CursorNobody.fail _ _ _ (regimenlaw13_CursorNobody.nob_below HN.out (by (repeat (first | exact HB.out | exact Below.refl _ _ | refine regimenlaw13_CursorNobody.bset ?_ (by have := HB.out.size; (try simp); omega) | apply below_alloc | apply pw_below_drewN | apply below_drew1))))).mono ?_; rintro e wn ⟨rfl, hb⟩; have n0_ := Aside0.mk (below_step (by (repeat (first | exact HB.out | exact Below.refl _ _ | refine regimenlaw13_CursorNobody.bset ?_ (by have := HB.out.size; (try simp); omega) | apply below_alloc | apply pw_below_drewN | apply below_drew1))) hb); clear HB hb; have HB := n0_; clear n0_))
    go_ret
    exact ⟨rfl, by (repeat (first | exact HB.out | exact Below.refl _ _ | refine regimenlaw13_CursorNobody.bset ?_ (by have := HB.out.size; (try simp); omega) | apply below_alloc | apply pw_below_drewN | apply below_drew1))⟩
theorem regimenlaw13_CursorNobody.v_is : names_Is.f 9 (⟨#[]⟩ : ByteArray) = some false := by decide +kernel
theorem regimenlaw13_CursorNobody.v_num : ∃ n e, num_Get.f 9 (⟨#[]⟩ : ByteArray) = some (n, e) := ⟨_, _, (by decide +kernel : num_Get.f 9 (⟨#[]⟩ : ByteArray) = some (0, 2))⟩
theorem regimenlaw13_CursorNobody.v_dec : ∃ n e, dec_Get.f 9 (⟨#[]⟩ : ByteArray) = some (n, e) := ⟨_, _, (by decide +kernel : dec_Get.f 9 (⟨#[]⟩ : ByteArray) = some (0, 2))⟩
set_option maxHeartbeats 4000000 in
set_option maxRecDepth 100000 in
theorem regimenlaw13_CursorNobody.name (v : Value) (w : World) (h : regimenlaw13_CursorNobody.nob w v) : Calls Try.prog 24 #[v] w fun e w' => e = .returned (.string ⟨#[]⟩) ∧ Below w.heap.size w w' := by
  have HN := Aside0.mk h
  have HB := Aside0.mk (Below.refl w.heap.size w)
  clear h
  go_enter Try.func24, Try.ntmps24
  go_wp2_with (first | (go_at_call 22; refine (regimenlaw13_CursorNobody.peek _ _ (regimenlaw13_CursorNobody.nob_below HN.out (by (repeat (first | exact HB.out | exact Below.refl _ _ | refine regimenlaw13_CursorNobody.bset ?_ (by have := HB.out.size; (try simp); omega) | apply below_alloc | apply pw_below_drewN | apply below_drew1))))).mono ?_; rintro e wn ⟨rfl, hb⟩; have n0_ := Aside0.mk (below_step (by (repeat (first | exact HB.out | exact Below.refl _ _ | refine regimenlaw13_CursorNobody.bset ?_ (by have := HB.out.size; (try simp); omega) | apply below_alloc | apply pw_below_drewN | apply below_drew1))) hb); clear HB hb; have HB := n0_; clear n0_) | (go_at_call 60; refine (names_Is.calls 9 _ _ _ regimenlaw13_CursorNobody.v_is).mono ?_; rintro e wn ⟨rfl, hb⟩; have n0_ := Aside0.mk (below_step (by (repeat (first | exact HB.out | exact Below.refl _ _ | refine regimenlaw13_CursorNobody.bset ?_ (by have := HB.out.size; (try simp); omega) | apply below_alloc | apply pw_below_drewN | apply below_drew1))) hb); clear HB hb; have HB := n0_; clear n0_) | (go_at_call 61; refine (regimenlaw13_CursorNobody.said _ _ _ _ (regimenlaw13_CursorNobody.nob_below HN.out (by (repeat (first | exact HB.out | exact Below.refl _ _ | refine regimenlaw13_CursorNobody.bset ?_ (by have := HB.out.size; (try simp); omega) | apply below_alloc | apply pw_below_drewN | apply below_drew1))))).mono ?_; rintro e wn ⟨rfl, hb⟩; have n0_ := Aside0.mk (below_step (by (repeat (first | exact HB.out | exact Below.refl _ _ | refine regimenlaw13_CursorNobody.bset ?_ (by have := HB.out.size; (try simp); omega) | apply below_alloc | apply pw_below_drewN | apply below_drew1))) hb); clear HB hb; have HB := n0_; clear n0_))
  go_ret
  exact ⟨rfl, by (repeat (first | exact HB.out | exact Below.refl _ _ | refine regimenlaw13_CursorNobody.bset ?_ (by have := HB.out.size; (try simp); omega) | apply below_alloc | apply pw_below_drewN | apply below_drew1))⟩
set_option maxHeartbeats 4000000 in
set_option maxRecDepth 100000 in
theorem regimenlaw13_CursorNobody.text (v : Value) (w : World) (h : regimenlaw13_CursorNobody.nob w v) : Calls Try.prog 27 #[v] w fun e w' => e = .returned (.string ⟨#[]⟩) ∧ Below w.heap.size w w' := by
  have HN := Aside0.mk h
  have HB := Aside0.mk (Below.refl w.heap.size w)
  clear h
  go_enter Try.func27, Try.ntmps27
  go_wp2_with (first | (go_at_call 22; refine (regimenlaw13_CursorNobody.peek _ _ (regimenlaw13_CursorNobody.nob_below HN.out (by (repeat (first | exact HB.out | exact Below.refl _ _ | refine regimenlaw13_CursorNobody.bset ?_ (by have := HB.out.size; (try simp); omega) | apply below_alloc | apply pw_below_drewN | apply below_drew1))))).mono ?_; rintro e wn ⟨rfl, hb⟩; have n0_ := Aside0.mk (below_step (by (repeat (first | exact HB.out | exact Below.refl _ _ | refine regimenlaw13_CursorNobody.bset ?_ (by have := HB.out.size; (try simp); omega) | apply below_alloc | apply pw_below_drewN | apply below_drew1))) hb); clear HB hb; have HB := n0_; clear n0_) | (go_at_call 61; refine (regimenlaw13_CursorNobody.said _ _ _ _ (regimenlaw13_CursorNobody.nob_below HN.out (by (repeat (first | exact HB.out | exact Below.refl _ _ | refine regimenlaw13_CursorNobody.bset ?_ (by have := HB.out.size; (try simp); omega) | apply below_alloc | apply pw_below_drewN | apply below_drew1))))).mono ?_; rintro e wn ⟨rfl, hb⟩; have n0_ := Aside0.mk (below_step (by (repeat (first | exact HB.out | exact Below.refl _ _ | refine regimenlaw13_CursorNobody.bset ?_ (by have := HB.out.size; (try simp); omega) | apply below_alloc | apply pw_below_drewN | apply below_drew1))) hb); clear HB hb; have HB := n0_; clear n0_))
  go_ret
  exact ⟨rfl, by (repeat (first | exact HB.out | exact Below.refl _ _ | refine regimenlaw13_CursorNobody.bset ?_ (by have := HB.out.size; (try simp); omega) | apply below_alloc | apply pw_below_drewN | apply below_drew1))⟩
set_option maxHeartbeats 4000000 in
set_option maxRecDepth 100000 in
theorem regimenlaw13_CursorNobody.number (v : Value) (n e0 lo hi : Int) (w : World) (h : regimenlaw13_CursorNobody.nob w v) : Calls Try.prog 63 #[v, .int .i64 n, .int .i64 e0, .int .i64 lo, .int .i64 hi] w fun e w' => e = .returned (.int .i64 0) ∧ Below w.heap.size w w' := by
  have HN := Aside0.mk h
  have HB := Aside0.mk (Below.refl w.heap.size w)
  clear h
  go_enter Try.func63, Try.ntmps63
  go_wp2_with (first | (go_at_call 61; refine (regimenlaw13_CursorNobody.said _ _ _ _ (regimenlaw13_CursorNobody.nob_below HN.out (by (repeat (first | exact HB.out | exact Below.refl _ _ | refine regimenlaw13_CursorNobody.bset ?_ (by have := HB.out.size; (try simp); omega) | apply below_alloc | apply pw_below_drewN | apply below_drew1))))).mono ?_; rintro e wn ⟨rfl, hb⟩; have n0_ := Aside0.mk (below_step (by (repeat (first | exact HB.out | exact Below.refl _ _ | refine regimenlaw13_CursorNobody.bset ?_ (by have := HB.out.size; (try simp); omega) | apply below_alloc | apply pw_below_drewN | apply below_drew1))) hb); clear HB hb; have HB := n0_; clear n0_))
  all_goals
    go_ret
    exact ⟨rfl, by (repeat (first | exact HB.out | exact Below.refl _ _ | refine regimenlaw13_CursorNobody.bset ?_ (by have := HB.out.size; (try simp); omega) | apply below_alloc | apply pw_below_drewN | apply below_drew1))⟩
set_option maxHeartbeats 4000000 in
set_option maxRecDepth 100000 in
theorem regimenlaw13_CursorNobody.count (v : Value) (lo hi : Int) (w : World) (h : regimenlaw13_CursorNobody.nob w v) : Calls Try.prog 25 #[v, .int .i64 lo, .int .i64 hi] w fun e w' => e = .returned (.int .i64 0) ∧ Below w.heap.size w w' := by
  obtain ⟨gn, ge, hg⟩ := regimenlaw13_CursorNobody.v_num
  have HG := Aside0.mk hg
  clear hg
  have HN := Aside0.mk h
  have HB := Aside0.mk (Below.refl w.heap.size w)
  clear h
  go_enter Try.func25, Try.ntmps25
  go_wp2_with (first | (go_at_call 22; refine (regimenlaw13_CursorNobody.peek _ _ (regimenlaw13_CursorNobody.nob_below HN.out (by (repeat (first | exact HB.out | exact Below.refl _ _ | refine regimenlaw13_CursorNobody.bset ?_ (by have := HB.out.size; (try simp); omega) | apply below_alloc | apply pw_below_drewN | apply below_drew1))))).mono ?_; rintro e wn ⟨rfl, hb⟩; have n0_ := Aside0.mk (below_step (by (repeat (first | exact HB.out | exact Below.refl _ _ | refine regimenlaw13_CursorNobody.bset ?_ (by have := HB.out.size; (try simp); omega) | apply below_alloc | apply pw_below_drewN | apply below_drew1))) hb); clear HB hb; have HB := n0_; clear n0_) | (go_at_call 62; refine (num_Get.calls 9 _ _ _ _ HG.out).mono ?_; rintro e wn ⟨rfl, hb⟩; have n0_ := Aside0.mk (below_step (by (repeat (first | exact HB.out | exact Below.refl _ _ | refine regimenlaw13_CursorNobody.bset ?_ (by have := HB.out.size; (try simp); omega) | apply below_alloc | apply pw_below_drewN | apply below_drew1))) hb); clear HB hb; have HB := n0_; clear n0_) | (go_at_call 63; refine (regimenlaw13_CursorNobody.number _ _ _ _ _ _ (regimenlaw13_CursorNobody.nob_below HN.out (by (repeat (first | exact HB.out | exact Below.refl _ _ | refine regimenlaw13_CursorNobody.bset ?_ (by have := HB.out.size; (try simp); omega) | apply below_alloc | apply pw_below_drewN | apply below_drew1))))).mono ?_; rintro e wn ⟨rfl, hb⟩; have n0_ := Aside0.mk (below_step (by (repeat (first | exact HB.out | exact Below.refl _ _ | refine regimenlaw13_CursorNobody.bset ?_ (by have := HB.out.size; (try simp); omega) | apply below_alloc | apply pw_below_drewN | apply below_drew1))) hb); clear HB hb; have HB := n0_; clear n0_))
  go_ret
  exact ⟨rfl, by (repeat (first | exact HB.out | exact Below.refl _ _ | refine regimenlaw13_CursorNobody.bset ?_ (by have := HB.out.size; (try simp); omega) | apply below_alloc | apply pw_below_drewN | apply below_drew1))⟩
set_option maxHeartbeats 4000000 in
set_option maxRecDepth 100000 in
theorem regimenlaw13_CursorNobody.value (v : Value) (hi : Int) (w : World) (h : regimenlaw13_CursorNobody.nob w v) : Calls Try.prog 26 #[v, .int .i64 hi] w fun e w' => e = .returned (.int .i64 0) ∧ Below w.heap.size w w' := by
  obtain ⟨gn, ge, hg⟩ := regimenlaw13_CursorNobody.v_dec
  have HG := Aside0.mk hg
  clear hg
  have HN := Aside0.mk h
  have HB := Aside0.mk (Below.refl w.heap.size w)
  clear h
  go_enter Try.func26, Try.ntmps26
  go_wp2_with (first | (go_at_call 22; refine (regimenlaw13_CursorNobody.peek _ _ (regimenlaw13_CursorNobody.nob_below HN.out (by (repeat (first | exact HB.out | exact Below.refl _ _ | refine regimenlaw13_CursorNobody.bset ?_ (by have := HB.out.size; (try simp); omega) | apply below_alloc | apply pw_below_drewN | apply below_drew1))))).mono ?_; rintro e wn ⟨rfl, hb⟩; have n0_ := Aside0.mk (below_step (by (repeat (first | exact HB.out | exact Below.refl _ _ | refine regimenlaw13_CursorNobody.bset ?_ (by have := HB.out.size; (try simp); omega) | apply below_alloc | apply pw_below_drewN | apply below_drew1))) hb); clear HB hb; have HB := n0_; clear n0_) | (go_at_call 64; refine (dec_Get.calls 9 _ _ _ _ HG.out).mono ?_; rintro e wn ⟨rfl, hb⟩; have n0_ := Aside0.mk (below_step (by (repeat (first | exact HB.out | exact Below.refl _ _ | refine regimenlaw13_CursorNobody.bset ?_ (by have := HB.out.size; (try simp); omega) | apply below_alloc | apply pw_below_drewN | apply below_drew1))) hb); clear HB hb; have HB := n0_; clear n0_) | (go_at_call 63; refine (regimenlaw13_CursorNobody.number _ _ _ _ _ _ (regimenlaw13_CursorNobody.nob_below HN.out (by (repeat (first | exact HB.out | exact Below.refl _ _ | refine regimenlaw13_CursorNobody.bset ?_ (by have := HB.out.size; (try simp); omega) | apply below_alloc | apply pw_below_drewN | apply below_drew1))))).mono ?_; rintro e wn ⟨rfl, hb⟩; have n0_ := Aside0.mk (below_step (by (repeat (first | exact HB.out | exact Below.refl _ _ | refine regimenlaw13_CursorNobody.bset ?_ (by have := HB.out.size; (try simp); omega) | apply below_alloc | apply pw_below_drewN | apply below_drew1))) hb); clear HB hb; have HB := n0_; clear n0_))
  go_ret
  exact ⟨rfl, by (repeat (first | exact HB.out | exact Below.refl _ _ | refine regimenlaw13_CursorNobody.bset ?_ (by have := HB.out.size; (try simp); omega) | apply below_alloc | apply pw_below_drewN | apply below_drew1))⟩
/-- What stands behind each call: nobody's cursor is nobody's, and the ask reads as it did. -/
def regimenlaw13_CursorNobody.g1 (g : Nat) (a1 : Int) (a2 : ByteArray) (a3 a4 : Int) (v : Value) (W : World) : Prop := regimenlaw13_CursorNobody.nob W v ∧ W.cell? ⟨g, 1, none⟩ = some (.int .i64 a1) ∧ W.cell? ⟨g, 2, none⟩ = some (.string a2) ∧ W.cell? ⟨g, 3, none⟩ = some (.int .i64 a3) ∧ W.cell? ⟨g, 4, none⟩ = some (.int .i64 a4)
theorem regimenlaw13_CursorNobody.g1_below {g : Nat} {a1 : Int} {a2 : ByteArray} {a3 a4 : Int} {v : Value} {W W1 : World} (h : regimenlaw13_CursorNobody.g1 g a1 a2 a3 a4 v W) (hb : Below W.heap.size W W1) : regimenlaw13_CursorNobody.g1 g a1 a2 a3 a4 v W1 :=
  ⟨regimenlaw13_CursorNobody.nob_below h.1 hb, pw_cell_below hb h.2.1, pw_cell_below hb h.2.2.1, pw_cell_below hb h.2.2.2.1, pw_cell_below hb h.2.2.2.2⟩
def regimenlaw13_CursorNobody.g2 (g p : Nat) (a1 : Int) (a2 : ByteArray) (a3 a4 : Int) (v : Value) (W : World) : Prop := regimenlaw13_CursorNobody.g1 g a1 a2 a3 a4 v W ∧ W.cell? ⟨p, 0, none⟩ = some (.int .i64 0) ∧ W.cell? ⟨p, 1, none⟩ = some (.int .i64 0)
theorem regimenlaw13_CursorNobody.g2_below {g p : Nat} {a1 : Int} {a2 : ByteArray} {a3 a4 : Int} {v : Value} {W W1 : World} (h : regimenlaw13_CursorNobody.g2 g p a1 a2 a3 a4 v W) (hb : Below W.heap.size W W1) : regimenlaw13_CursorNobody.g2 g p a1 a2 a3 a4 v W1 :=
  ⟨regimenlaw13_CursorNobody.g1_below h.1 hb, pw_cell_below hb h.2.1, pw_cell_below hb h.2.2⟩
def regimenlaw13_CursorNobody.f (k : Nat) (a0_0 a0_1 : Int) (a0_2 : ByteArray) (a0_3 a0_4 : Int) : Option Bool := regimenlaw13_awake.f k
/-- THE ONE PURE STATEMENT of regimenlaw13_CursorNobody. -/
def regimenlaw13_CursorNobody.Pure : Prop := ∀ (a0_0 : Int) (a0_1 : Int) (a0_2 : ByteArray) (a0_3 : Int) (a0_4 : Int), ((Lit.int .i64 a0_0).wf = true) → ((Lit.int .i64 a0_1).wf = true) → (a0_2.size ≤ 140737488351232) → ((Lit.int .i64 a0_3).wf = true) → ((Lit.int .i64 a0_4).wf = true) → ∃ k, regimenlaw13_CursorNobody.f k a0_0 a0_1 a0_2 a0_3 a0_4 = some true
set_option maxHeartbeats 4000000 in
set_option maxRecDepth 100000 in
theorem regimenlaw13_CursorNobody.walk (P : regimenlaw13_CursorNobody.Pure) (a0_0 : Int) (a0_1 : Int) (a0_2 : ByteArray) (a0_3 : Int) (a0_4 : Int) (w : World) (w0_0 : (Lit.int .i64 a0_0).wf = true) (w0_1 : (Lit.int .i64 a0_1).wf = true) (w0_2 : a0_2.size ≤ 140737488351232) (w0_3 : (Lit.int .i64 a0_3).wf = true) (w0_4 : (Lit.int .i64 a0_4).wf = true) :
    Calls Try.prog 7 #[.agg #[.int .i64 a0_0, .int .i64 a0_1, .string a0_2, .int .i64 a0_3, .int .i64 a0_4]] w fun e w' => e = .returned (.bool true) ∧ Below w.heap.size w w' := by
  obtain ⟨k, haw⟩ := P a0_0 a0_1 a0_2 a0_3 a0_4 w0_0 w0_1 w0_2 w0_3 w0_4
  have HAW := Aside0.mk haw
  clear haw w0_0 w0_1 w0_2 w0_3 w0_4 P
  obtain ⟨g, hg⟩ : ∃ g, g = w.heap.size := ⟨_, rfl⟩
  obtain ⟨w0, hw0⟩ : ∃ w0, w0 = w.alloc (.cells #[.int .i64 a0_0, .int .i64 a0_1, .string a0_2, .int .i64 a0_3, .int .i64 a0_4] 45) := ⟨_, rfl⟩
  have B0 : Aside0 (Below w.heap.size w w0) := ⟨by rw [hw0]; exact below_alloc (Below.refl _ _) _⟩
  have h1 : w0.cell? ⟨g, 1, none⟩ = some (.int .i64 a0_1) := by rw [hw0, hg]; simp
  have h2 : w0.cell? ⟨g, 2, none⟩ = some (.string a0_2) := by rw [hw0, hg]; simp
  have h3 : w0.cell? ⟨g, 3, none⟩ = some (.int .i64 a0_3) := by rw [hw0, hg]; simp
  have h4 : w0.cell? ⟨g, 4, none⟩ = some (.int .i64 a0_4) := by rw [hw0, hg]; simp
  have H0 : Aside0 (regimenlaw13_CursorNobody.g1 g a0_1 a0_2 a0_3 a0_4 (.pointer none) w0) := ⟨.inl rfl, h1, h2, h3, h4⟩
  clear h1 h2 h3 h4
  go_enter Try.func7, Try.ntmps7
  go_wp2
  rw [← hg, ← hw0]
  clear hg hw0
  go_loopg [3] 2 (fun gg s3 wr => ∃ kk : Nat, kk ≤ 2 ∧ 2 - kk ≤ gg ∧ s3 = .int .i64 kk ∧ Aside (Below w0.heap.size w0 wr))
  case atStart => exact ⟨0, by omega, by omega, rfl, Below.refl _ _⟩
  case round =>
    obtain ⟨kk, hkk, hgg, rfl, BW⟩ := hrel
    have HB := Aside0.mk BW.out
    by_cases h0 : kk = 0
    · subst h0
      have HG := Aside0.mk (regimenlaw13_CursorNobody.g1_below H0.out HB.out)
      clear H0 BW
      have c1 := HG.out.2.1; have c2 := HG.out.2.2.1; have c3 := HG.out.2.2.2.1; have c4 := HG.out.2.2.2.2
      go_wp2_with (first | (go_at_call 19; refine (regimenlaw13_CursorNobody.fail _ _ _ HG.out.1).mono ?_; rintro e wn ⟨rfl, hb⟩; have n0_ := Aside0.mk (below_step HB.out hb); have n1_ := Aside0.mk (regimenlaw13_CursorNobody.g1_below HG.out hb); clear HB HG hb; have HB := n0_; have HG := n1_; clear n0_ n1_; have c1 := HG.out.2.1; have c2 := HG.out.2.2.1; have c3 := HG.out.2.2.2.1; have c4 := HG.out.2.2.2.2) | (go_at_call 20; refine (regimenlaw13_CursorNobody.want _ _ _ _ HG.out.1).mono ?_; rintro e wn ⟨rfl, hb⟩; have n0_ := Aside0.mk (below_step HB.out hb); have n1_ := Aside0.mk (regimenlaw13_CursorNobody.g1_below HG.out hb); clear HB HG hb; have HB := n0_; have HG := n1_; clear n0_ n1_; have c1 := HG.out.2.1; have c2 := HG.out.2.2.1; have c3 := HG.out.2.2.2.1; have c4 := HG.out.2.2.2.2) | (go_at_call 21; refine (regimenlaw13_CursorNobody.fault _ _ HG.out.1).mono ?_; rintro e wf ⟨rfl, hb⟩; have n0_ := Aside0.mk (below_step HB.out hb); have n1_ := Aside0.mk (regimenlaw13_CursorNobody.g1_below HG.out hb); clear HB HG hb; have HB := n0_; have HG := n1_; clear n0_ n1_; have c1 := HG.out.2.1; have c2 := HG.out.2.2.1; have c3 := HG.out.2.2.2.1; have c4 := HG.out.2.2.2.2) | (go_at_call 22; refine (regimenlaw13_CursorNobody.peek _ _ (regimenlaw13_CursorNobody.g1_below HG.out (by (repeat (first | exact Below.refl _ _ | (refine below_set ?_ (by (try simp); (try omega))) | apply below_alloc | apply pw_below_drewN | apply below_drew1)))).1).mono ?_; rintro e wn ⟨rfl, hb⟩; have n0_ := Aside0.mk (below_step (by (repeat (first | exact HB.out | refine regimenlaw13_CursorNobody.bset ?_ (by have := HB.out.size; (try simp); omega) | apply below_alloc | apply pw_below_drewN | apply below_drew1))) hb); have n1_ : Aside0 (regimenlaw13_CursorNobody.g2 g wf.heap.size a0_1 a0_2 a0_3 a0_4 _ wn) := Aside0.mk ⟨regimenlaw13_CursorNobody.g1_below (regimenlaw13_CursorNobody.g1_below HG.out (by (repeat (first | exact Below.refl _ _ | (refine below_set ?_ (by (try simp); (try omega))) | apply below_alloc | apply pw_below_drewN | apply below_drew1)))) hb, pw_cell_below hb (by simp), pw_cell_below hb (by simp)⟩; clear HB HG hb; have HB := n0_; have HG := n1_; clear n0_ n1_; have c1 := HG.out.1.2.1; have c2 := HG.out.1.2.2.1; have c3 := HG.out.1.2.2.2.1; have c4 := HG.out.1.2.2.2.2; have c5 := HG.out.2.1; have c6 := HG.out.2.2) | (go_at_call 23; refine (regimenlaw13_CursorNobody.take _ _ _ _ HG.out.1.1).mono ?_; rintro e wn ⟨rfl, hb⟩; have n0_ := Aside0.mk (below_step HB.out hb); have n1_ := Aside0.mk (regimenlaw13_CursorNobody.g2_below HG.out hb); clear HB HG hb; have HB := n0_; have HG := n1_; clear n0_ n1_; have c1 := HG.out.1.2.1; have c2 := HG.out.1.2.2.1; have c3 := HG.out.1.2.2.2.1; have c4 := HG.out.1.2.2.2.2; have c5 := HG.out.2.1; have c6 := HG.out.2.2) | (go_at_call 24; refine (regimenlaw13_CursorNobody.name _ _ HG.out.1.1).mono ?_; rintro e wn ⟨rfl, hb⟩; have n0_ := Aside0.mk (below_step HB.out hb); have n1_ := Aside0.mk (regimenlaw13_CursorNobody.g2_below HG.out hb); clear HB HG hb; have HB := n0_; have HG := n1_; clear n0_ n1_; have c1 := HG.out.1.2.1; have c2 := HG.out.1.2.2.1; have c3 := HG.out.1.2.2.2.1; have c4 := HG.out.1.2.2.2.2; have c5 := HG.out.2.1; have c6 := HG.out.2.2) | (go_at_call 25; refine (regimenlaw13_CursorNobody.count _ _ _ _ HG.out.1.1).mono ?_; rintro e wn ⟨rfl, hb⟩; have n0_ := Aside0.mk (below_step HB.out hb); have n1_ := Aside0.mk (regimenlaw13_CursorNobody.g2_below HG.out hb); clear HB HG hb; have HB := n0_; have HG := n1_; clear n0_ n1_; have c1 := HG.out.1.2.1; have c2 := HG.out.1.2.2.1; have c3 := HG.out.1.2.2.2.1; have c4 := HG.out.1.2.2.2.2; have c5 := HG.out.2.1; have c6 := HG.out.2.2) | (go_at_call 26; refine (regimenlaw13_CursorNobody.value _ _ _ HG.out.1.1).mono ?_; rintro e wn ⟨rfl, hb⟩; have n0_ := Aside0.mk (below_step HB.out hb); have n1_ := Aside0.mk (regimenlaw13_CursorNobody.g2_below HG.out hb); clear HB HG hb; have HB := n0_; have HG := n1_; clear n0_ n1_; have c1 := HG.out.1.2.1; have c2 := HG.out.1.2.2.1; have c3 := HG.out.1.2.2.2.1; have c4 := HG.out.1.2.2.2.2; have c5 := HG.out.2.1; have c6 := HG.out.2.2) | (go_at_call 27; refine (regimenlaw13_CursorNobody.text _ _ HG.out.1.1).mono ?_; rintro e wn ⟨rfl, hb⟩; have n0_ := Aside0.mk (below_step HB.out hb); have n1_ := Aside0.mk (regimenlaw13_CursorNobody.g2_below HG.out hb); clear HB HG hb; have HB := n0_; have HG := n1_; clear n0_ n1_; have c1 := HG.out.1.2.1; have c2 := HG.out.1.2.2.1; have c3 := HG.out.1.2.2.2.1; have c4 := HG.out.1.2.2.2.2; have c5 := HG.out.2.1; have c6 := HG.out.2.2))
      go_roundg (2 - (0 + 1))
      case measure => omega
      case rel => exact ⟨1, by omega, by omega, by go_num, HB.out⟩
    · by_cases h1 : kk = 1
      · subst h1
        have HG : Aside0 (regimenlaw13_CursorNobody.g1 g a0_1 a0_2 a0_3 a0_4 (.pointer (some ⟨wr.heap.size, 0, none⟩)) (wr.alloc (.cells #[.bool false, .slice none 0 0, .int .i64 0, .int .i64 0, .int .i64 0, .int .i64 0, .int .i64 0] 48))) := by
          have q := regimenlaw13_CursorNobody.g1_below H0.out (below_alloc HB.out (.cells #[.bool false, .slice none 0 0, .int .i64 0, .int .i64 0, .int .i64 0, .int .i64 0, .int .i64 0] 48))
          exact ⟨.inr ⟨_, rfl, by simp, by simp⟩, q.2⟩
        have n0_ := Aside0.mk (below_alloc HB.out (.cells #[.bool false, .slice none 0 0, .int .i64 0, .int .i64 0, .int .i64 0, .int .i64 0, .int .i64 0] 48))
        clear H0 BW HB
        have HB := n0_
        clear n0_
        have c1 := HG.out.2.1; have c2 := HG.out.2.2.1; have c3 := HG.out.2.2.2.1; have c4 := HG.out.2.2.2.2
        go_wp2_with (first | (go_at_call 19; refine (regimenlaw13_CursorNobody.fail _ _ _ HG.out.1).mono ?_; rintro e wn ⟨rfl, hb⟩; have n0_ := Aside0.mk (below_step HB.out hb); have n1_ := Aside0.mk (regimenlaw13_CursorNobody.g1_below HG.out hb); clear HB HG hb; have HB := n0_; have HG := n1_; clear n0_ n1_; have c1 := HG.out.2.1; have c2 := HG.out.2.2.1; have c3 := HG.out.2.2.2.1; have c4 := HG.out.2.2.2.2) | (go_at_call 20; refine (regimenlaw13_CursorNobody.want _ _ _ _ HG.out.1).mono ?_; rintro e wn ⟨rfl, hb⟩; have n0_ := Aside0.mk (below_step HB.out hb); have n1_ := Aside0.mk (regimenlaw13_CursorNobody.g1_below HG.out hb); clear HB HG hb; have HB := n0_; have HG := n1_; clear n0_ n1_; have c1 := HG.out.2.1; have c2 := HG.out.2.2.1; have c3 := HG.out.2.2.2.1; have c4 := HG.out.2.2.2.2) | (go_at_call 21; refine (regimenlaw13_CursorNobody.fault _ _ HG.out.1).mono ?_; rintro e wf ⟨rfl, hb⟩; have n0_ := Aside0.mk (below_step HB.out hb); have n1_ := Aside0.mk (regimenlaw13_CursorNobody.g1_below HG.out hb); clear HB HG hb; have HB := n0_; have HG := n1_; clear n0_ n1_; have c1 := HG.out.2.1; have c2 := HG.out.2.2.1; have c3 := HG.out.2.2.2.1; have c4 := HG.out.2.2.2.2) | (go_at_call 22; refine (regimenlaw13_CursorNobody.peek _ _ (regimenlaw13_CursorNobody.g1_below HG.out (by (repeat (first | exact Below.refl _ _ | (refine below_set ?_ (by (try simp); (try omega))) | apply below_alloc | apply pw_below_drewN | apply below_drew1)))).1).mono ?_; rintro e wn ⟨rfl, hb⟩; have n0_ := Aside0.mk (below_step (by (repeat (first | exact HB.out | refine regimenlaw13_CursorNobody.bset ?_ (by have := HB.out.size; (try simp); omega) | apply below_alloc | apply pw_below_drewN | apply below_drew1))) hb); have n1_ : Aside0 (regimenlaw13_CursorNobody.g2 g wf.heap.size a0_1 a0_2 a0_3 a0_4 _ wn) := Aside0.mk ⟨regimenlaw13_CursorNobody.g1_below (regimenlaw13_CursorNobody.g1_below HG.out (by (repeat (first | exact Below.refl _ _ | (refine below_set ?_ (by (try simp); (try omega))) | apply below_alloc | apply pw_below_drewN | apply below_drew1)))) hb, pw_cell_below hb (by simp), pw_cell_below hb (by simp)⟩; clear HB HG hb; have HB := n0_; have HG := n1_; clear n0_ n1_; have c1 := HG.out.1.2.1; have c2 := HG.out.1.2.2.1; have c3 := HG.out.1.2.2.2.1; have c4 := HG.out.1.2.2.2.2; have c5 := HG.out.2.1; have c6 := HG.out.2.2) | (go_at_call 23; refine (regimenlaw13_CursorNobody.take _ _ _ _ HG.out.1.1).mono ?_; rintro e wn ⟨rfl, hb⟩; have n0_ := Aside0.mk (below_step HB.out hb); have n1_ := Aside0.mk (regimenlaw13_CursorNobody.g2_below HG.out hb); clear HB HG hb; have HB := n0_; have HG := n1_; clear n0_ n1_; have c1 := HG.out.1.2.1; have c2 := HG.out.1.2.2.1; have c3 := HG.out.1.2.2.2.1; have c4 := HG.out.1.2.2.2.2; have c5 := HG.out.2.1; have c6 := HG.out.2.2) | (go_at_call 24; refine (regimenlaw13_CursorNobody.name _ _ HG.out.1.1).mono ?_; rintro e wn ⟨rfl, hb⟩; have n0_ := Aside0.mk (below_step HB.out hb); have n1_ := Aside0.mk (regimenlaw13_CursorNobody.g2_below HG.out hb); clear HB HG hb; have HB := n0_; have HG := n1_; clear n0_ n1_; have c1 := HG.out.1.2.1; have c2 := HG.out.1.2.2.1; have c3 := HG.out.1.2.2.2.1; have c4 := HG.out.1.2.2.2.2; have c5 := HG.out.2.1; have c6 := HG.out.2.2) | (go_at_call 25; refine (regimenlaw13_CursorNobody.count _ _ _ _ HG.out.1.1).mono ?_; rintro e wn ⟨rfl, hb⟩; have n0_ := Aside0.mk (below_step HB.out hb); have n1_ := Aside0.mk (regimenlaw13_CursorNobody.g2_below HG.out hb); clear HB HG hb; have HB := n0_; have HG := n1_; clear n0_ n1_; have c1 := HG.out.1.2.1; have c2 := HG.out.1.2.2.1; have c3 := HG.out.1.2.2.2.1; have c4 := HG.out.1.2.2.2.2; have c5 := HG.out.2.1; have c6 := HG.out.2.2) | (go_at_call 26; refine (regimenlaw13_CursorNobody.value _ _ _ HG.out.1.1).mono ?_; rintro e wn ⟨rfl, hb⟩; have n0_ := Aside0.mk (below_step HB.out hb); have n1_ := Aside0.mk (regimenlaw13_CursorNobody.g2_below HG.out hb); clear HB HG hb; have HB := n0_; have HG := n1_; clear n0_ n1_; have c1 := HG.out.1.2.1; have c2 := HG.out.1.2.2.1; have c3 := HG.out.1.2.2.2.1; have c4 := HG.out.1.2.2.2.2; have c5 := HG.out.2.1; have c6 := HG.out.2.2) | (go_at_call 27; refine (regimenlaw13_CursorNobody.text _ _ HG.out.1.1).mono ?_; rintro e wn ⟨rfl, hb⟩; have n0_ := Aside0.mk (below_step HB.out hb); have n1_ := Aside0.mk (regimenlaw13_CursorNobody.g2_below HG.out hb); clear HB HG hb; have HB := n0_; have HG := n1_; clear n0_ n1_; have c1 := HG.out.1.2.1; have c2 := HG.out.1.2.2.1; have c3 := HG.out.1.2.2.2.1; have c4 := HG.out.1.2.2.2.2; have c5 := HG.out.2.1; have c6 := HG.out.2.2))
        go_roundg (2 - (1 + 1))
        case measure => omega
        case rel => exact ⟨2, by omega, by omega, by go_num, HB.out⟩
      · obtain rfl : kk = 2 := by omega
        clear H0 h0 h1
        go_wp2_with (first | (go_at_call 28; refine (regimenlaw13_awake.calls k true _ HAW.out).mono ?_; rintro e wn ⟨rfl, hb⟩))
        go_ret
        exact ⟨rfl, B0.out.trans ((below_step BW.out hb).mono B0.out.size)⟩

end Go.Proofs.Ytnmmhfpekeeedaa.PC
