/- Lines of a trace are read (layer 57): their words, heads, groups, events. A step's lines (layer 45), by value: the rounds. Lines of a trace are read (layer 57): a head, a group, an event, each told again. A step that lines begin with (layer 57): what it is, that it may be told, and is told as these lines. All steps that lines begin with (layer 57); and what may be told is let pass. What is read of any lines may be told, and is told again as the same lines. -/
import Derived.Test.YtcgdhpnobgimfaaDoorMTA5
import Derived.Test.YtcgdhpnobgimfaaDoorMTA4
import Derived.Test.YtcgdhpnobgimfaaDoorMTA3
section
namespace Go.Proofs.YtcgdhpnobgimfaaDoor.Num
set_option linter.unusedVariables false
set_option linter.unusedSimpArgs false
open Go.RowKit Go.Proofs.YtcgdhpnobgimfaaDoor.PI Go.Proofs.YtcgdhpnobgimfaaDoorW.PrintWords Go.Proofs.YtcgdhpnobgimfaaDoorW.PrintMore

theorem nums_ext {a b : ByteArray} (h : numsOf a = numsOf b) : a = b := nums_inj h
/-- What stands behind a beginning; ahead of an end. -/
def afterP (b a : ByteArray) : Option ByteArray := if numsOf (a.extract 0 b.size) = numsOf b then some (a.extract b.size a.size) else none
def beforeS (b a : ByteArray) : Option ByteArray := if b.size ≤ a.size ∧ numsOf (a.extract (a.size - b.size) a.size) = numsOf b then some (a.extract 0 (a.size - b.size)) else none
theorem after_app (b r : ByteArray) : afterP b (b ++ r) = some r := by
  unfold afterP
  have hb := nums_len b
  rw [if_pos (by rw [nums_take, nums_app, ← hb, List.take_left])]
  congr 1
  refine nums_ext ?_
  rw [nums_drop, nums_app, ← hb, List.drop_left]
theorem after_some {a b r : ByteArray} (h : afterP b a = some r) : a = b ++ r := by
  unfold afterP at h
  split at h
  · rename_i c
    cases h
    refine nums_ext ?_
    rw [nums_app, ← c, nums_take, nums_drop, List.take_append_drop]
  · cases h
theorem before_app (r b : ByteArray) : beforeS b (r ++ b) = some r := by
  unfold beforeS
  have hb := nums_len b
  have hr := nums_len r
  have e : (r ++ b).size - b.size = r.size := by rw [size_app]; omega
  rw [if_pos ⟨by rw [size_app]; omega, by rw [e, nums_drop, nums_app, ← hr, List.drop_left]⟩, e]
  congr 1
  refine nums_ext ?_
  rw [nums_take, nums_app, ← hr, List.take_left]
theorem before_some {a b r : ByteArray} (h : beforeS b a = some r) : a = r ++ b := by
  unfold beforeS at h
  split at h
  · rename_i c
    cases h
    refine nums_ext ?_
    rw [nums_app, ← c.2, nums_take, nums_drop, List.take_append_drop]
  · cases h
theorem cutp_ok (a b : ByteArray) : strings_CutPrefix.f a b = some (match afterP b a with | some r => (r, true) | none => (a, false)) := by
  unfold strings_CutPrefix.f stringslite_CutPrefix.f stringslite_HasPrefix.f afterP
  by_cases h : b.size ≤ a.size
  · rw [if_pos (by omega), if_pos (by omega), if_pos (by omega), Option.bind_some]
    by_cases d : numsOf (a.extract 0 b.size) = numsOf b
    · have e : ((a.extract 0 (((b.size : Nat) : Int)).toNat).toList == b.toList) = true := by
        rw [beq_iff_eq, tl_eq]
        exact nums_ext d
      rw [e, if_pos d]
      show (Option.bind (if (true = true) then _ else _) _) = _
      rw [if_pos rfl, if_pos (by omega), if_pos (by omega)]
      rfl
    · have e : ((a.extract 0 (((b.size : Nat) : Int)).toNat).toList == b.toList) = false := by
        rw [beq_eq_false_iff_ne]
        exact fun q => d (congrArg numsOf ((tl_eq _ _).1 q))
      rw [e, if_neg d]
      rfl
  · have e : ¬ numsOf (a.extract 0 b.size) = numsOf b := fun q => by
      have := congrArg List.length q
      rw [nums_take, List.length_take, nums_len, nums_len] at this
      omega
    rw [if_neg e, if_neg (by omega)]
    rfl
theorem cuts_ok (a b : ByteArray) (ha : a.size < 1000000000) (hb : b.size < 1000000000) : strings_CutSuffix.f a b = some (match beforeS b a with | some r => (r, true) | none => (a, false)) := by
  unfold strings_CutSuffix.f stringslite_CutSuffix.f stringslite_HasSuffix.f beforeS
  by_cases h : b.size ≤ a.size
  · have w : wrap64 ((a.size : Int) - (b.size : Int)) = ((a.size - b.size : Nat) : Int) := by rw [w64_id (by omega) (by omega)]; omega
    rw [w]
    rw [if_pos (by omega), if_pos (by omega), if_pos (by omega), Option.bind_some]
    by_cases d : numsOf (a.extract (a.size - b.size) a.size) = numsOf b
    · have e : ((a.extract (((a.size - b.size : Nat) : Int)).toNat a.size).toList == b.toList) = true := by
        rw [beq_iff_eq, tl_eq]
        exact nums_ext d
      rw [e, if_pos (show true = true from rfl), if_pos (by omega), if_pos (by omega), if_pos (show b.size ≤ a.size ∧ numsOf (a.extract (a.size - b.size) a.size) = numsOf b from ⟨h, d⟩)]
      rfl
    · have e : ((a.extract (((a.size - b.size : Nat) : Int)).toNat a.size).toList == b.toList) = false := by
        rw [beq_eq_false_iff_ne]
        exact fun q => d (congrArg numsOf ((tl_eq _ _).1 q))
      rw [e, if_neg (show ¬ (b.size ≤ a.size ∧ numsOf (a.extract (a.size - b.size) a.size) = numsOf b) from fun q => d q.2)]
      rfl
  · rw [if_neg (show ¬ (b.size ≤ a.size ∧ numsOf (a.extract (a.size - b.size) a.size) = numsOf b) from fun q => h q.1), if_neg (by omega)]
    rfl
/-- A line out of its words. -/
theorem join_words (b : ByteArray) (l : List ByteArray) : numsOf (b ++ tailS l) = jn 32 ((b :: l).map numsOf) := by
  induction l generalizing b with
  | nil => rw [tailS, app_nil]; rfl
  | cons c l ih =>
    rw [tailS, app_assoc, nums_app, nums_app, ih c]
    rfl
theorem words_back (s : ByteArray) {b : ByteArray} {l : List ByteArray} (h : partsB 32 s = b :: l) : s = b ++ tailS l := by
  refine nums_ext ?_
  rw [join_words, ← h]
  unfold partsB
  rw [List.map_map]
  have e : (pcs ((32 : UInt8).toNat : Int) (numsOf s)).map (numsOf ∘ strOfNums) = pcs 32 (numsOf s) := by
    have hf : ∀ p ∈ pcs 32 (numsOf s), (numsOf ∘ strOfNums) p = p := fun p hp => nums_str fun x hx => nums_byte s x (by
      have := pcs_jn 32 (numsOf s)
      have key : ∀ (ws : List (List Int)), p ∈ ws → x ∈ p → x ∈ jn 32 ws := by
        intro ws
        induction ws with
        | nil => intro hq; cases hq
        | cons w r ih =>
          intro hq hx
          cases r with
          | nil =>
            rw [List.mem_singleton] at hq
            rw [← hq]
            exact hx
          | cons v r =>
            rw [jn_cons 32 w (by simp), List.mem_append]
            rcases List.mem_cons.1 hq with rfl | hq
            · exact .inl hx
            · exact .inr (List.mem_cons_of_mem _ (ih hq hx))
      rw [← this]
      exact key _ hp hx)
    rw [show ((32 : UInt8).toNat : Int) = 32 from rfl]
    rw [List.map_congr_left hf]
    simp
  rw [e, pcs_jn]
theorem words_of (b : ByteArray) (l : List ByteArray) (h : ∀ w ∈ b :: l, (32 : Int) ∉ numsOf w) : partsB 32 (b ++ tailS l) = b :: l := by
  unfold partsB
  rw [join_words, show ((32 : UInt8).toNat : Int) = 32 from rfl, jn_pcs (by simp) (fun w hw => by
    obtain ⟨v, hv, rfl⟩ := List.mem_map.1 hw
    exact h v hv), List.map_map]
  have : (strOfNums ∘ numsOf) = id := funext str_nums
  rw [this, List.map_id]
/-! ### values and groups -/
theorem decv_word {l : List Int} (h : (decv l).2 = 0) : word' (decv l).1 := by
  unfold decv at h ⊢
  split at h
  · rename_i hv
    rw [if_pos hv]
    split at h
    · cases h
    · rename_i h1
      rw [if_neg h1]
      split at h
      · rename_i hs
        rw [if_pos hs]
        unfold sgn at hs ⊢
        have h0 : 0 ≤ mag (body l) := by
          rw [mag_eq hv]
          have := (mag_frac hv).1
          have := (valf_bd (valid_dig hv).1).1
          omega
        unfold word'
        split
        · rename_i q
          rw [if_pos q] at hs
          split at hs
          · rename_i q2
            rw [if_pos q2]
            constructor <;> simp only <;> omega
          · cases hs
        · rename_i q
          rw [if_neg q] at hs
          split at hs
          · rename_i q2
            rw [if_pos q2]
            constructor <;> simp only <;> omega
          · cases hs
      · cases h
  · cases h
/-- The number whose own decimal it is. -/
noncomputable def ownv (w : ByteArray) : Option Int := if (decv (numsOf w)).2 = 0 ∧ decS (decv (numsOf w)).1 = w then some (decv (numsOf w)).1 else none
noncomputable def ownL : List ByteArray → Option (List Int)
  | [] => some []
  | w :: r => match ownv w, ownL r with
    | some n, some l => some (n :: l)
    | _, _ => none
theorem ownv_some {w : ByteArray} {n : Int} (h : ownv w = some n) : decS n = w ∧ word' n := by
  unfold ownv at h
  split at h
  · rename_i c
    cases h
    exact ⟨c.2, decv_word c.1⟩
  · cases h
theorem decv_decS {n : Int} (hn : word' n) : decv (numsOf (decS n)) = (n, 0) := by
  unfold decS
  have h := Classical.choose_spec (fewest_ex (f := iabs n % 4294967296))
  rw [(putl_byte n _ hn).1]
  exact (putl_back hn h).1
theorem ownv_decS {n : Int} (hn : word' n) : ownv (decS n) = some n := by
  unfold ownv
  rw [decv_decS hn, if_pos ⟨rfl, rfl⟩]
theorem ownL_some {W : List ByteArray} : ∀ {l : List Int}, ownL W = some l → W = decL l ∧ ∀ x ∈ l, word' x := by
  induction W with
  | nil => intro l h; cases h; exact ⟨rfl, fun x hx => by cases hx⟩
  | cons w W ih =>
    intro l h
    unfold ownL at h
    split at h
    · rename_i n m h1 h2
      cases h
      obtain ⟨e1, e2⟩ := ih h2
      obtain ⟨e3, e4⟩ := ownv_some h1
      refine ⟨by rw [e1, ← e3]; rfl, fun x hx => ?_⟩
      rcases List.mem_cons.1 hx with rfl | hx
      · exact e4
      · exact e2 x hx
    · cases h
theorem ownL_decL {l : List Int} (h : ∀ x ∈ l, word' x) : ownL (decL l) = some l := by
  induction l with
  | nil => rfl
  | cons x l ih =>
    rw [show decL (x :: l) = decS x :: decL l from rfl, ownL, ownv_decS (h x List.mem_cons_self), ih fun y hy => h y (List.mem_cons_of_mem _ hy)]
theorem value_ok (w : ByteArray) (hw : w.size < 1000000) : ∃ n, Ev (fun k => trace_value.f k w) (n, (ownv w).isSome) ∧ ∀ m, ownv w = some m → m = n := by
  unfold trace_value.f
  by_cases c : (decv (numsOf w)).2 = 0
  · refine ⟨(decv (numsOf w)).1, ?_, fun m hm => ?_⟩
    · refine Ev.bind (dec_get_ok w hw) ?_
      refine evp c ?_
      refine Ev.bind (dput_ok (decv_word c)) ?_
      have e : ((decS (decv (numsOf w)).1).toList == w.toList) = (ownv w).isSome := by
        unfold ownv
        by_cases d : decS (decv (numsOf w)).1 = w
        · rw [if_pos ⟨c, d⟩, d]
          exact beq_self_eq_true _
        · rw [if_neg (fun q => d q.2)]
          show _ = false
          rw [beq_eq_false_iff_ne]
          exact fun q => d ((tl_eq _ _).1 q)
      rw [e]
      exact Ev.now _
    · unfold ownv at hm
      split at hm
      · cases hm; rfl
      · cases hm
  · refine ⟨(decv (numsOf w)).1, ?_, fun m hm => ?_⟩
    · refine Ev.bind (dec_get_ok w hw) ?_
      refine evn c ?_
      have e : (ownv w).isSome = false := by unfold ownv; rw [if_neg (fun q => c q.1)]; rfl
      rw [e]
      exact Ev.now _
    · unfold ownv at hm
      rw [if_neg (fun q => c q.1)] at hm
      cases hm
def frzB : ByteArray := ⟨#[32, 102, 114, 111, 122, 101, 110]⟩
def gpre (i : Int) : ByteArray := (⟨#[32, 32, 103, 114, 111, 117, 112, 32]⟩ : ByteArray) ++ tellv i ++ (⟨#[32]⟩ : ByteArray)
/-- What a group's line says. -/
noncomputable def bodyG (r : ByteArray) : ByteArray × Bool := match beforeS frzB r with
  | some b => (b, true)
  | none => (r, false)
noncomputable def groupP (s : ByteArray) (i : Int) : Option (List Int × Bool) := match afterP (gpre i) s with
  | some r => match ownL (partsB 32 (bodyG r).1) with
    | some l => if l.length = 3 then some (l, (bodyG r).2) else none
    | none => none
  | none => none
theorem group_l6 (fr : Bool) (W : List ByteArray) (hW : ∀ w ∈ W, w.size < 1000000) (hl : W.length < 1000000) (d : Nat) : ∀ (i : Nat) (acc : List Int), i + d = W.length → acc.length + d ≤ 1000000 →
    ∃ r, Ev (fun k => trace_group.l6 k acc fr W (W.length : Int) (i : Int)) r ∧ match ownL (W.drop i) with
      | some l => r = (acc ++ l, fr, decide ((acc ++ l).length = 3), ())
      | none => r.2.2.1 = false := by
  induction d with
  | zero =>
    intro i acc h ha
    refine ⟨(acc, fr, xor false (decide ((acc.length : Int) = 3)), ()), ?_, ?_⟩
    · refine Ev.step (fun k => by rw [trace_group.l6]) ?_
      refine evn (by omega) ?_
      exact Ev.now _
    · rw [List.drop_eq_nil_of_le (by omega)]
      show _ = _
      rw [List.append_nil, Bool.false_xor]
      congr 2
      have : ((acc.length : Int) = 3) = (acc.length = 3) := propext ⟨fun h => by omega, fun h => by omega⟩
      simp only [this]
  | succ d ih =>
    intro i acc h ha
    have hi : i < W.length := by omega
    have hd : W.drop i = W[i] :: W.drop (i + 1) := List.drop_eq_getElem_cons hi
    have hg : W.getD i (⟨#[]⟩ : ByteArray) = W[i] := by rw [List.getD_eq_getElem?_getD, List.getElem?_eq_getElem hi]; rfl
    obtain ⟨n, hv, hn⟩ := value_ok W[i] (hW _ (List.getElem_mem hi))
    have head : ∀ {r}, Ev (fun k => if (!(ownv W[i]).isSome) = true then some (([] : List Int), false, false, ()) else if (acc.length + [n].length) * 8 ≤ 140737488355328 then trace_group.l6 k (acc ++ [n]) fr W (W.length : Int) (wrap64 ((i : Int) + 1)) else none) r → Ev (fun k => trace_group.l6 k acc fr W (W.length : Int) (i : Int)) r := by
      intro r hr
      refine Ev.step (fun k => by rw [trace_group.l6]) ?_
      refine evp (by omega) ?_
      refine evp (by omega) ?_
      refine evp (by omega) ?_
      rw [show ((i : Int)).toNat = i from rfl, hg]
      exact Ev.bind hv hr
    rw [hd, ownL]
    cases ho : ownv W[i] with
    | none =>
      refine ⟨([], false, false, ()), head ?_, rfl⟩
      rw [ho]
      refine evp rfl ?_
      exact Ev.now _
    | some m =>
      obtain rfl := hn m ho
      obtain ⟨r, h1, h2⟩ := ih (i + 1) (acc ++ [m]) (by omega) (by simp only [List.length_append, List.length_cons, List.length_nil]; omega)
      refine ⟨r, head ?_, ?_⟩
      · rw [ho]
        refine evn (by simp) ?_
        refine evp (by simp only [List.length_cons, List.length_nil]; omega) ?_
        rw [w64_succ (by omega)]
        exact h1
      · cases hr : ownL (W.drop (i + 1)) with
        | none => rw [hr] at h2; exact h2
        | some l =>
          rw [hr] at h2
          simp only at h2 ⊢
          rw [h2, List.append_assoc]
          rfl
end Go.Proofs.YtcgdhpnobgimfaaDoor.Num
end
section
namespace Go.Proofs.YtcgdhpnobgimfaaDoor.Num
set_option linter.unusedVariables false
set_option linter.unusedSimpArgs false
open Go.RowKit Go.Proofs.YtcgdhpnobgimfaaDoor.PI Go.Proofs.YtcgdhpnobgimfaaDoorW.PrintWords Go.Proofs.YtcgdhpnobgimfaaDoorW.PrintMore

theorem drop_cons {α : Type} {l : List α} {i : Nat} (d : α) (h : i < l.length) : l.drop i = l.getD i d :: l.drop (i + 1) := by
  rw [List.drop_eq_getElem_cons h, List.getD_eq_getElem?_getD, List.getElem?_eq_getElem h]
  rfl
theorem mem_getD {α : Type} {l : List α} {i : Nat} (d : α) (h : i < l.length) : l.getD i d ∈ l := by
  rw [List.getD_eq_getElem?_getD, List.getElem?_eq_getElem h]
  exact List.getElem_mem h
theorem step_l8 (es : List EvT) (he : ∀ e, e ∈ es → word' e.2.2.1) (hn : es.length ≤ 600) (d : Nat) : ∀ (i : Nat) (acc : List ByteArray), i + d = es.length → acc.length + d ≤ 100000 →
    Ev (fun k => output_Step_s.l8 k acc es (es.length : Int) (i : Int)) (acc ++ (es.drop i).map evS) := by
  induction d with
  | zero =>
    intro i acc h ha
    refine Ev.step (fun k => by rw [output_Step_s.l8]) ?_
    refine evn (by omega) ?_
    rw [List.drop_eq_nil_of_le (by omega), List.map_nil, List.append_nil]
    exact Ev.now _
  | succ d ih =>
    intro i acc h ha
    have hw := he _ (mem_getD (0, 0, 0, ()) (i := i) (by omega : i < es.length))
    have z := line_size (k := (es.getD i (0, 0, 0, ())).2.1) hw
    refine Ev.step (fun k => by rw [output_Step_s.l8]) ?_
    refine evp (by omega) ?_
    refine evp (by omega) ?_
    refine evp (by omega) ?_
    refine Ev.bind (line_ok _ _ hw) ?_
    refine evp (by rw [sz_two]; simp only [Int.toNat_natCast]; omega) ?_
    refine evp (by simp only [List.length_cons, List.length_nil]; omega) ?_
    rw [w64_succ (by omega)]
    have := ih (i + 1) (acc ++ [evS (es.getD i (0, 0, 0, ()))]) (by omega) (by simp only [List.length_append, List.length_cons, List.length_nil]; omega)
    rw [List.append_assoc] at this
    rw [drop_cons (0, 0, 0, ()) (by omega : i < es.length), List.map_cons]
    exact this
section
variable {o : OutT} (ok : OutOk o)
include ok
theorem step_l3 (n : Nat) (hn : 3 * n ≤ o.2.2.1.length) (d : Nat) : ∀ (i : Nat) (acc : List ByteArray), i + d = n → acc.length + d ≤ 10000 →
    Ev (fun k => output_Step_s.l3 k acc (n : Int) (i : Int) o) (acc ++ (List.range' i d).map (grpS o) ++ (o.2.2.2.2.1.drop 0).map evS) := by
  have nv := ok.nv
  have ne := ok.ne
  induction d with
  | zero =>
    intro i acc h ha
    refine Ev.step (fun k => by rw [output_Step_s.l3]) ?_
    refine evn (by omega) ?_
    rw [List.range'_zero, List.map_nil, List.append_nil]
    exact step_l8 _ ok.evs ne o.2.2.2.2.1.length 0 acc (by omega) (by omega)
  | succ d ih =>
    intro i acc h ha
    refine Ev.step (fun k => by rw [output_Step_s.l3]) ?_
    refine evp (by omega) ?_
    refine Ev.bind (group_ok ok (by omega)) ?_
    refine evp (by simp only [List.length_cons, List.length_nil]; omega) ?_
    rw [w64_succ (by omega)]
    have := ih (i + 1) (acc ++ [grpS o i]) (by omega) (by simp only [List.length_append, List.length_cons, List.length_nil]; omega)
    rw [List.range'_succ, List.map_cons]
    simp only [List.append_assoc, List.cons_append, List.nil_append] at this ⊢
    exact this
theorem step_ok : Ev (fun k => output_Step_s.f k o) (stepL o) := by
  have nv := ok.nv
  unfold output_Step_s.f
  refine Ev.bind (tell_ok ok.step) ?_
  refine Ev.bind (tell_ok ok.phase) ?_
  refine evs (oword_ok _) ?_
  have hb : ∀ b, b ∈ [tellv o.1, (⟨#[112, 104, 97, 115, 101]⟩ : ByteArray), tellv o.2.1, wordS o.2.2.2.2.2.1] → b.size ≤ 100 := by
    intro b h
    simp only [List.mem_cons, List.not_mem_nil, or_false] at h
    rcases h with rfl | rfl | rfl | rfl
    · exact tellv_100 ok.step
    · decide
    · exact tellv_100 ok.phase
    · exact Nat.le_trans (wordS_size _) (by decide)
  refine evs (line_join (by decide) (by simp only [List.length_cons, List.length_nil]; omega) hb) ?_
  refine evn (by decide) ?_
  have e : wrap64 (Int.tdiv (o.2.2.1.length : Int) (3 : Int)) = ((o.2.2.1.length / 3 : Nat) : Int) := by
    rw [Int.tdiv_eq_ediv_of_nonneg (by omega), w64_id (by omega) (by omega)]
    omega
  rw [e]
  exact step_l3 ok (o.2.2.1.length / 3) (by omega) (o.2.2.1.length / 3) 0 _ (by omega) (by simp only [List.length_cons, List.length_nil]; omega)
end
end Go.Proofs.YtcgdhpnobgimfaaDoor.Num
end
section
namespace Go.Proofs.YtcgdhpnobgimfaaDoor.Num
set_option linter.unusedVariables false
set_option linter.unusedSimpArgs false
open Go.RowKit Go.Proofs.YtcgdhpnobgimfaaDoor.PI Go.Proofs.YtcgdhpnobgimfaaDoorW.PrintWords Go.Proofs.YtcgdhpnobgimfaaDoorW.PrintMore

abbrev nilB : ByteArray := ⟨#[]⟩
def zeroO : OutT := (0, 0, ([] : List Int), ([] : List Bool), ([] : List EvT), 0, ())
theorem tgroup_ok (s : ByteArray) (hs : s.size ≤ 1000) {i : Nat} (hi : i < 1000) : ∃ r, Ev (fun k => trace_group.f k s (i : Int)) r ∧ match groupP s (i : Int) with
    | some p => r = (p.1, p.2, true, ())
    | none => r.2.2.1 = false := by
  have hw : word' (i : Int) := by unfold word'; omega
  have ht := tellv_size hw
  have e8 : (⟨#[32, 32, 103, 114, 111, 117, 112, 32]⟩ : ByteArray).size = 8 := rfl
  have start : ∀ {r}, Ev (fun k => (strings_CutPrefix.f s (gpre (i : Int))).bind fun t2 => (if (!t2.2) = true then (some (([] : List Int), false, false, ())) else ((strings_CutSuffix.f t2.1 (⟨#[32, 102, 114, 111, 122, 101, 110]⟩ : ByteArray)).bind fun t3 => ((strings_Split.f k t3.1 (⟨#[32]⟩ : ByteArray)).bind fun t4 => (trace_group.l6 k ([] : List Int) t3.2 t4 (t4.length : Int) (0 : Int)))))) r → Ev (fun k => trace_group.f k s (i : Int)) r := by
    intro r hr
    unfold trace_group.f
    refine Ev.bind (tell_ok hw) ?_
    refine evp (by rw [e8]; omega) ?_
    refine evp (by rw [size_app, e8, show (⟨#[32]⟩ : ByteArray).size = 1 from rfl]; omega) ?_
    exact hr
  unfold groupP
  cases ha : afterP (gpre (i : Int)) s with
  | none =>
    refine ⟨(([] : List Int), false, false, ()), start ?_, rfl⟩
    refine evs (by rw [cutp_ok, ha]) ?_
    refine evp rfl ?_
    exact Ev.now _
  | some r =>
    have hr : r.size ≤ 1000 := by
      have := congrArg ByteArray.size (after_some ha)
      rw [size_app] at this
      omega
    have hb : (bodyG r).1.size ≤ 1000 := by
      unfold bodyG
      cases hq : beforeS frzB r with
      | none => exact hr
      | some b =>
        have := congrArg ByteArray.size (before_some hq)
        rw [size_app] at this
        show b.size ≤ 1000
        omega
    obtain ⟨res, h1, h2⟩ := group_l6 (bodyG r).2 (partsB 32 (bodyG r).1) (fun w hw => by have := parts_size hw; omega) (by have := parts_len (c := 32) (s := (bodyG r).1); omega) _ 0 [] (Nat.zero_add _) (by have := parts_len (c := 32) (s := (bodyG r).1); simp only [List.length_nil]; omega)
    refine ⟨res, start ?_, ?_⟩
    · refine evs (by rw [cutp_ok, ha]) ?_
      refine evn (by simp) ?_
      refine evs (a := bodyG r) (by
        show strings_CutSuffix.f r frzB = _
        rw [cuts_ok r frzB (by omega) (by decide)]
        unfold bodyG
        cases beforeS frzB r <;> rfl) ?_
      have hsp : ∀ k, strings_Split.f k (bodyG r).1 (⟨#[32]⟩ : ByteArray) = some (partsB 32 (bodyG r).1) := fun k => split_ok k _ (by omega) 32
      exact Ev.bind ⟨0, fun k _ => hsp k⟩ h1
    · rw [List.drop_zero] at h2
      simp only
      cases ho : ownL (partsB 32 (bodyG r).1) with
      | none => rw [ho] at h2; exact h2
      | some l =>
        rw [ho] at h2
        simp only [List.nil_append] at h2 ⊢
        by_cases c : l.length = 3
        · rw [if_pos c]
          simp only
          rw [h2, decide_eq_true c]
        · rw [if_neg c]
          simp only
          rw [h2, decide_eq_false c]
theorem groupP_some {s : ByteArray} {i : Int} {l : List Int} {f : Bool} (h : groupP s i = some (l, f)) : s = (⟨#[32, 32, 103, 114, 111, 117, 112]⟩ : ByteArray) ++ tailS (tellv i :: (decL l ++ (if f = true then [(⟨#[102, 114, 111, 122, 101, 110]⟩ : ByteArray)] else []))) ∧ l.length = 3 ∧ ∀ x ∈ l, word' x := by
  unfold groupP at h
  split at h
  · rename_i r hr
    split at h
    · rename_i m hm
      split at h
      · rename_i h3
        cases h
        obtain ⟨e1, e2⟩ := ownL_some hm
        refine ⟨?_, h3, e2⟩
        have e3 := after_some hr
        have hp : ∃ w0 W, partsB 32 (bodyG r).1 = w0 :: W := by
          cases hq : partsB 32 (bodyG r).1 with
          | nil => rw [hq] at hm; cases hm; cases h3
          | cons w W => exact ⟨w, W, rfl⟩
        obtain ⟨w0, W, hp⟩ := hp
        have e4 := words_back _ hp
        have e5 : r = (bodyG r).1 ++ (if (bodyG r).2 = true then frzB else nilB) := by
          unfold bodyG
          cases hq : beforeS frzB r with
          | none => show r = r ++ nilB; rw [app_nil]
          | some b => exact before_some hq
        generalize bodyG r = bf at *
        obtain ⟨b, f⟩ := bf
        simp only at *
        have e9 : (if f = true then frzB else nilB) = tailS (if f = true then [(⟨#[102, 114, 111, 122, 101, 110]⟩ : ByteArray)] else []) := by
          cases f
          · rfl
          · decide +kernel
        have e8 : (⟨#[32, 32, 103, 114, 111, 117, 112, 32]⟩ : ByteArray) = (⟨#[32, 32, 103, 114, 111, 117, 112]⟩ : ByteArray) ++ (⟨#[32]⟩ : ByteArray) := rfl
        rw [← e1, hp, tailS, tailS_app, tailS, ← e9, e3]
        conv => lhs; rw [e5]
        rw [e4]
        unfold gpre
        rw [e8]
        simp only [app_assoc]
      · cases h
    · cases h
  · cases h
/-! ### heads -/
def fidx (w : ByteArray) : List ByteArray → Int → Int
  | [], _ => -1
  | x :: r, i => if w = x then i else fidx w r (i + 1)
theorem index_loop (L : List ByteArray) (w : ByteArray) (hl : L.length < 1000000) (d : Nat) : ∀ i : Nat, i + d = L.length → Ev (fun k => slices_Index___string_string_.l2 k L w (L.length : Int) (i : Int)) (fidx w (L.drop i) (i : Int)) := by
  induction d with
  | zero =>
    intro i h
    refine Ev.step (fun k => by rw [slices_Index___string_string_.l2]) ?_
    refine evn (by omega) ?_
    rw [List.drop_eq_nil_of_le (by omega)]
    exact Ev.now _
  | succ d ih =>
    intro i h
    have hi : i < L.length := by omega
    have hg : L.getD i (⟨#[]⟩ : ByteArray) = L[i] := by rw [List.getD_eq_getElem?_getD, List.getElem?_eq_getElem hi]; rfl
    refine Ev.step (fun k => by rw [slices_Index___string_string_.l2]) ?_
    refine evp (by omega) ?_
    refine evp (by omega) ?_
    refine evp (by omega) ?_
    rw [show ((i : Int)).toNat = i from rfl, hg, List.drop_eq_getElem_cons hi, fidx]
    by_cases c : w = L[i]
    · rw [if_pos c]
      refine evp ((tl_eq _ _).2 c) ?_
      exact Ev.now _
    · rw [if_neg c]
      refine evn (fun q => c ((tl_eq _ _).1 q)) ?_
      rw [w64_succ (by omega)]
      exact ih (i + 1) (by omega)
def statW : List ByteArray := [(⟨#[103, 111, 101, 115]⟩ : ByteArray), (⟨#[100, 111, 110, 101]⟩ : ByteArray), (⟨#[115, 116, 111, 112, 112, 101, 100]⟩ : ByteArray), (⟨#[102, 97, 105, 108, 101, 100]⟩ : ByteArray)]
def statv (w : ByteArray) : Int := fidx w statW 0
theorem status_ok (w : ByteArray) : Ev (fun k => trace_status.f k w) (statv w) := by
  unfold trace_status.f slices_Index___string_string_.f
  refine Ev.bind (index_loop statW w (by decide) 4 0 rfl) ?_
  exact Ev.now _
theorem statv_word {w : ByteArray} (h : ¬ statv w < 0) : wordS (statv w) = w ∧ 0 ≤ statv w ∧ statv w ≤ 3 := by
  unfold statv statW at h ⊢
  simp only [fidx] at h ⊢
  split at h
  · rename_i c
    rw [if_pos c, c]
    exact ⟨rfl, by decide, by decide⟩
  · rename_i c1
    rw [if_neg c1]
    split at h
    · rename_i c
      rw [if_pos c, c]
      exact ⟨rfl, by decide, by decide⟩
    · rename_i c2
      rw [if_neg c2]
      split at h
      · rename_i c
        rw [if_pos c, c]
        exact ⟨rfl, by decide, by decide⟩
      · rename_i c3
        rw [if_neg c3]
        split at h
        · rename_i c
          rw [if_pos c, c]
          exact ⟨rfl, by decide, by decide⟩
        · exact absurd (by decide) h
def stepB : ByteArray := ⟨#[115, 116, 101, 112]⟩
def phaseB : ByteArray := ⟨#[112, 104, 97, 115, 101]⟩
open Classical in
/-- What a step's first line says. -/
noncomputable def headP (s : ByteArray) : Option OutT :=
  if (partsB 32 s).length = 5 ∧ (partsB 32 s).getD 0 nilB = stepB ∧ (partsB 32 s).getD 2 nilB = phaseB ∧ (getv (numsOf ((partsB 32 s).getD 1 nilB))).2 = 0 ∧ (getv (numsOf ((partsB 32 s).getD 3 nilB))).2 = 0 ∧ ¬ statv ((partsB 32 s).getD 4 nilB) < 0 then
    some ((getv (numsOf ((partsB 32 s).getD 1 nilB))).1, (getv (numsOf ((partsB 32 s).getD 3 nilB))).1, [], [], [], statv ((partsB 32 s).getD 4 nilB), ()) else none
theorem head_ok (s : ByteArray) (hs : s.size ≤ 1000) : ∃ r, Ev (fun k => trace_head.f k s) r ∧ match headP s with
    | some o => r = (o, true, ())
    | none => r.2.1 = false := by
  have hsp : ∀ k, strings_Split.f k s (⟨#[32]⟩ : ByteArray) = some (partsB 32 s) := fun k => split_ok k _ (by omega) 32
  have hsz : ∀ i, ((partsB 32 s).getD i nilB).size < 1000000 := fun i => by
    rcases Nat.lt_or_ge i (partsB 32 s).length with c | c
    · have := parts_size (mem_getD nilB c)
      omega
    · rw [List.getD_eq_getElem?_getD, List.getElem?_eq_none c]
      decide
  have start : ∀ {r} {f : Nat → List ByteArray → Option (OutT × Bool × Unit)}, Ev (fun k => f k (partsB 32 s)) r → Ev (fun k => (strings_Split.f k s (⟨#[32]⟩ : ByteArray)).bind (f k)) r := fun h => Ev.bind ⟨0, fun k _ => hsp k⟩ h
  unfold headP trace_head.f
  generalize hW : partsB 32 s = W at *
  have none_of : ∀ {c : Prop} [Decidable c] {x : OutT} {r : OutT × Bool × Unit}, ¬ c → r.2.1 = false → (match (if c then some x else none : Option OutT) with | some o => r = (o, true, ()) | none => r.2.1 = false) := fun h hr => by rw [if_neg h]; exact hr
  have fin : Ev (fun _ => some ((0, 0, ([] : List Int), ([] : List Bool), ([] : List (Int × Int × Int × Unit)), 0, ()), false, ())) (zeroO, false, ()) := Ev.now _
  by_cases c1 : W.length = 5
  case neg => exact ⟨_, start (f := fun k t1 => _) (evn (fun q => c1 (by omega)) fin), none_of (fun q => c1 q.1) rfl⟩
  have l5 : (W.length : Int) = 5 := by omega
  by_cases c2 : W.getD 0 nilB = stepB
  case neg =>
    refine ⟨(zeroO, false, ()), start (f := fun k t1 => _) ?_, none_of (fun q => c2 q.2.1) rfl⟩
    refine evp l5 (evp (by omega) (evp (by omega) (evn (fun q => c2 ((tl_eq _ _).1 q)) fin)))
  by_cases c3 : W.getD 2 nilB = phaseB
  case neg =>
    refine ⟨(zeroO, false, ()), start (f := fun k t1 => _) ?_, none_of (fun q => c3 q.2.2.1) rfl⟩
    refine evp l5 (evp (by omega) (evp (by omega) (evp ((tl_eq _ _).2 c2) (evp (by omega) (evp (by omega) (evn (fun q => c3 ((tl_eq _ _).1 q)) fin))))))
  have mid : ∀ {r} , Ev (fun k => if (getv (numsOf (W.getD 1 nilB))).2 = (0 : Int) then (if (getv (numsOf (W.getD 3 nilB))).2 = (0 : Int) then (if statv (W.getD 4 nilB) < (0 : Int) then (some ((0, 0, ([] : List Int), ([] : List Bool), ([] : List (Int × Int × Int × Unit)), 0, ()), false, ())) else (some (((getv (numsOf (W.getD 1 nilB))).1, (getv (numsOf (W.getD 3 nilB))).1, ([] : List Int), ([] : List Bool), ([] : List (Int × Int × Int × Unit)), statv (W.getD 4 nilB), ()), true, ()))) else (some ((0, 0, ([] : List Int), ([] : List Bool), ([] : List (Int × Int × Int × Unit)), 0, ()), false, ()))) else (some ((0, 0, ([] : List Int), ([] : List Bool), ([] : List (Int × Int × Int × Unit)), 0, ()), false, ()))) r → Ev (fun k => trace_head.f k s) r := by
    intro r hr
    unfold trace_head.f
    refine start (f := fun k t1 => _) ?_
    refine evp l5 (evp (by omega) (evp (by omega) (evp ((tl_eq _ _).2 c2) (evp (by omega) (evp (by omega) (evp ((tl_eq _ _).2 c3) (evp (by omega) (evp (by omega) ?_))))))))
    refine Ev.bind (get_ok _ (hsz 1)) (evp (by omega) (evp (by omega) ?_))
    refine Ev.bind (get_ok _ (hsz 3)) (evp (by omega) (evp (by omega) ?_))
    exact Ev.bind (status_ok _) hr
  by_cases c4 : (getv (numsOf (W.getD 1 nilB))).2 = 0
  case neg => exact ⟨_, mid (evn c4 fin), none_of (fun q => c4 q.2.2.2.1) rfl⟩
  by_cases c5 : (getv (numsOf (W.getD 3 nilB))).2 = 0
  case neg => exact ⟨_, mid (evp c4 (evn c5 fin)), none_of (fun q => c5 q.2.2.2.2.1) rfl⟩
  by_cases c6 : statv (W.getD 4 nilB) < 0
  case pos => exact ⟨_, mid (evp c4 (evp c5 (evp c6 fin))), none_of (fun q => q.2.2.2.2.2 c6) rfl⟩
  refine ⟨_, mid (evp c4 (evp c5 (evn c6 (Ev.now _)))), ?_⟩
  rw [if_pos ⟨c1, c2, c3, c4, c5, c6⟩]
theorem headP_some {s : ByteArray} {o : OutT} (h : headP s = some o) : headS o = s ∧ (0 ≤ o.1 ∧ o.1 ≤ 1099511627776) ∧ (0 ≤ o.2.1 ∧ o.2.1 ≤ 1099511627776) ∧ o.2.2.1 = [] ∧ o.2.2.2.1 = [] ∧ o.2.2.2.2.1 = [] ∧ 0 ≤ o.2.2.2.2.2.1 ∧ o.2.2.2.2.2.1 ≤ 3 := by
  unfold headP at h
  split at h
  · rename_i c
    obtain ⟨c1, c2, c3, c4, c5, c6⟩ := c
    cases h
    obtain ⟨_, v1, v2, v3, v4⟩ := get_back c4
    obtain ⟨_, u1, u2, u3, u4⟩ := get_back c5
    obtain ⟨z1, z2, z3⟩ := statv_word c6
    have tellB : ∀ {b : ByteArray}, (getv (numsOf b)).2 = 0 → tellv (getv (numsOf b)).1 = b := fun {b} q => by
      obtain ⟨_, a1, a2, a3, a4⟩ := get_back q
      unfold tellv
      rw [a1, if_neg (by omega), a4, str_nums]
    refine ⟨?_, by simp only; omega, by simp only; omega, rfl, rfl, rfl, z2, z3⟩
    unfold headS
    simp only
    rw [tellB c4, tellB c5, z1]
    generalize hW : partsB 32 s = W at *
    match W, c1 with
    | [w0, w1, w2, w3, w4], _ =>
      have e := words_back s hW
      rw [show w0 = stepB from c2, show w2 = phaseB from c3] at e
      rw [e]
      rfl
  · cases h
/-! ### events -/
def eventP (s : ByteArray) (step : Int) : Option (Int × Int × Int) := match afterP (⟨#[32, 32]⟩ : ByteArray) s with
  | some r => if (parsed step (numsOf r) 11 1).2.2.2 = true then some ((parsed step (numsOf r) 11 1).1, (parsed step (numsOf r) 11 1).2.1, (parsed step (numsOf r) 11 1).2.2.1) else none
  | none => none
theorem event_ok (s : ByteArray) (hs : s.size ≤ 1000) (step : Int) : ∃ r, Ev (fun k => trace_event.f k s step) r ∧ match eventP s step with
    | some e => r = (e.1, e.2.1, e.2.2, true)
    | none => r.2.2.2 = false := by
  unfold trace_event.f eventP
  cases ha : afterP (⟨#[32, 32]⟩ : ByteArray) s with
  | none =>
    refine ⟨(0, 0, 0, false), ?_, rfl⟩
    refine evs (by rw [cutp_ok, ha]) ?_
    refine evn (by simp) ?_
    exact Ev.now _
  | some r =>
    have hr : r.size ≤ 1000 := by
      have := congrArg ByteArray.size (after_some ha)
      rw [size_app] at this
      omega
    refine ⟨parsed step (numsOf r) 11 1, ?_, ?_⟩
    · refine evs (by rw [cutp_ok, ha]) ?_
      refine evp rfl ?_
      refine Ev.bind (parse_ok step r (by omega)) ?_
      exact Ev.now _
    · simp only
      by_cases c : (parsed step (numsOf r) 11 1).2.2.2 = true
      · rw [if_pos c]
        simp only
        rw [← c]
      · rw [if_neg c]
        simpa using c
theorem eventP_some {s : ByteArray} {step : Int} {e : Int × Int × Int} (h : eventP s step = some e) : evS (e.1, e.2.1, e.2.2, ()) = s ∧ e.1 = step ∧ (1 ≤ e.2.1 ∧ e.2.1 ≤ 11) ∧ 0 ≤ e.2.2 ∧ e.2.2 ≤ 1099511627776 := by
  unfold eventP at h
  split at h
  · rename_i r hr
    split at h
    · rename_i c
      cases h
      obtain ⟨h1, h2, h3, h4⟩ := parsed_back c
      refine ⟨?_, h4, h2, h3⟩
      rw [after_some hr]
      unfold evS
      simp only
      rw [h1]
    · cases h
  · cases h
end Go.Proofs.YtcgdhpnobgimfaaDoor.Num
end
section
namespace Go.Proofs.YtcgdhpnobgimfaaDoor.Num
set_option linter.unusedVariables false
set_option linter.unusedSimpArgs false
open Go.RowKit Go.Proofs.YtcgdhpnobgimfaaDoor.PI Go.Proofs.YtcgdhpnobgimfaaDoorW.PrintWords Go.Proofs.YtcgdhpnobgimfaaDoorW.PrintMore

noncomputable def grps : List ByteArray → OutT → OutT × List ByteArray
  | [], o => (o, [])
  | s :: r, o => match groupP s (o.2.2.2.1.length : Int) with
    | some g => grps r (o.1, o.2.1, o.2.2.1 ++ g.1, o.2.2.2.1 ++ [g.2], o.2.2.2.2)
    | none => (o, s :: r)
def evts : List ByteArray → OutT → OutT × List ByteArray
  | [], o => (o, [])
  | s :: r, o => match eventP s o.1 with
    | some e => evts r (o.1, o.2.1, o.2.2.1, o.2.2.2.1, o.2.2.2.2.1 ++ [(e.1, e.2.1, e.2.2, ())], o.2.2.2.2.2)
    | none => (o, s :: r)
noncomputable def oneP : List ByteArray → OutT × Nat
  | [] => (zeroO, 0)
  | s :: r => match headP s with
    | some o => ((evts (grps r o).2 (grps r o).1).1, (s :: r).length - (evts (grps r o).2 (grps r o).1).2.length)
    | none => (zeroO, 0)
section
variable (L : List ByteArray) (hL : ∀ w ∈ L, w.size ≤ 1000) (hn : L.length ≤ 900) (b2 : OutT)
include hL hn
theorem one_l12 (d : Nat) : ∀ (i : Nat) (o : OutT), i + d = L.length → o.2.2.2.2.1.length + d ≤ 100000 →
    Ev (fun k => trace_One.l12 k L (i : Int) b2 o) ((evts (L.drop i) o).1, ((L.length - (evts (L.drop i) o).2.length : Nat) : Int), ()) := by
  induction d with
  | zero =>
    intro i o h ho
    refine Ev.step (fun k => by rw [trace_One.l12]) ?_
    refine evn (by omega) ?_
    rw [List.drop_eq_nil_of_le (by omega), evts, List.length_nil]
    refine Ev.step (fun k => by rw [trace_One.j17]) ?_
    rw [show L.length - 0 = i from by omega]
    exact Ev.now _
  | succ d ih =>
    intro i o h ho
    have hi : i < L.length := by omega
    have hg : L.getD i (⟨#[]⟩ : ByteArray) = L[i] := by rw [List.getD_eq_getElem?_getD, List.getElem?_eq_getElem hi]; rfl
    have hdl : (L[i] :: L.drop (i + 1)).length = L.length - i := by rw [← List.drop_eq_getElem_cons hi, List.length_drop]
    obtain ⟨r, h1, h2⟩ := event_ok L[i] (hL _ (List.getElem_mem hi)) o.1
    refine Ev.step (fun k => by rw [trace_One.l12]) ?_
    refine evp (by omega) ?_
    refine evp (by omega) ?_
    refine evp (by omega) ?_
    rw [show ((i : Int)).toNat = i from rfl, hg, List.drop_eq_getElem_cons hi, evts]
    refine Ev.bind h1 ?_
    cases he : eventP L[i] o.1 with
    | none =>
      rw [he] at h2
      simp only at h2 ⊢
      rw [h2]
      refine evp rfl ?_
      refine Ev.step (fun k => by rw [trace_One.j17]) ?_
      rw [hdl, show L.length - (L.length - i) = i from by omega]
      exact Ev.now _
    | some e =>
      rw [he] at h2
      simp only at h2 ⊢
      rw [h2]
      refine evn (by simp) ?_
      refine evp (by simp only [List.length_cons, List.length_nil]; omega) ?_
      rw [w64_succ (by omega)]
      exact ih (i + 1) _ (by omega) (by simp only [List.length_append, List.length_cons, List.length_nil]; omega)
theorem one_l7 (d : Nat) : ∀ (i : Nat) (o : OutT), i + d = L.length → o.2.2.2.2.1.length + d ≤ 100000 → o.2.2.1.length + 3 * d ≤ 100000 → o.2.2.2.1.length + d < 1000 →
    Ev (fun k => trace_One.l7 k L (i : Int) b2 o) ((evts (grps (L.drop i) o).2 (grps (L.drop i) o).1).1, ((L.length - (evts (grps (L.drop i) o).2 (grps (L.drop i) o).1).2.length : Nat) : Int), ()) := by
  induction d with
  | zero =>
    intro i o h ho hv hf
    refine Ev.step (fun k => by rw [trace_One.l7]) ?_
    refine evn (by omega) ?_
    have := one_l12 L hL hn b2 0 i o h ho
    rw [List.drop_eq_nil_of_le (by omega)] at this ⊢
    exact this
  | succ d ih =>
    intro i o h ho hv hf
    have hi : i < L.length := by omega
    have hg : L.getD i (⟨#[]⟩ : ByteArray) = L[i] := by rw [List.getD_eq_getElem?_getD, List.getElem?_eq_getElem hi]; rfl
    obtain ⟨r, h1, h2⟩ := tgroup_ok L[i] (hL _ (List.getElem_mem hi)) (i := o.2.2.2.1.length) (by omega)
    refine Ev.step (fun k => by rw [trace_One.l7]) ?_
    refine evp (by omega) ?_
    refine evp (by omega) ?_
    refine evp (by omega) ?_
    rw [show ((i : Int)).toNat = i from rfl, hg]
    refine Ev.bind h1 ?_
    cases he : groupP L[i] (o.2.2.2.1.length : Int) with
    | none =>
      rw [he] at h2
      simp only at h2
      rw [h2]
      refine evp rfl ?_
      have hs : grps (L.drop i) o = (o, L.drop i) := by rw [List.drop_eq_getElem_cons hi, grps, he]
      rw [hs]
      exact one_l12 L hL hn b2 (d + 1) i o h ho
    | some g =>
      rw [he] at h2
      simp only at h2
      obtain ⟨gl, gf⟩ := g
      have h3 := (groupP_some he).2.1
      rw [h2]
      refine evn (by simp) ?_
      refine evp (by simp only; omega) ?_
      refine evp (by simp only [List.length_cons, List.length_nil]; omega) ?_
      rw [w64_succ (by omega)]
      have hs : grps (L.drop i) o = grps (L.drop (i + 1)) (o.1, o.2.1, o.2.2.1 ++ gl, o.2.2.2.1 ++ [gf], o.2.2.2.2) := by rw [List.drop_eq_getElem_cons hi, grps, he]
      rw [hs]
      exact ih (i + 1) _ (by omega) (by simp only; omega) (by simp only [List.length_append]; omega) (by simp only [List.length_append, List.length_cons, List.length_nil]; omega)
theorem one_ok : Ev (fun k => trace_One.f k L) ((oneP L).1, ((oneP L).2 : Int), ()) := by
  unfold trace_One.f
  cases hc : L with
  | nil =>
    refine evp rfl ?_
    exact Ev.now _
  | cons s r =>
    rw [← hc]
    have hl : L.length = r.length + 1 := by rw [hc]; rfl
    have hg : L.getD ((0 : Int)).toNat (⟨#[]⟩ : ByteArray) = s := by rw [hc]; rfl
    refine evn (by omega) ?_
    refine evp (by omega) ?_
    refine evp (by omega) ?_
    rw [hg]
    obtain ⟨x, h1, h2⟩ := head_ok s (hL s (by rw [hc]; exact List.mem_cons_self))
    refine Ev.bind h1 ?_
    have ho : oneP L = match headP s with
      | some o => ((evts (grps r o).2 (grps r o).1).1, L.length - (evts (grps r o).2 (grps r o).1).2.length)
      | none => (zeroO, 0) := by
      rw [hc, oneP]
    cases hh : headP s with
    | none =>
      rw [hh] at h2 ho
      simp only at h2
      rw [h2, ho]
      refine evp rfl ?_
      exact Ev.now _
    | some o =>
      rw [hh] at h2 ho
      simp only at h2
      rw [h2, ho]
      refine evn (by simp) ?_
      obtain ⟨_, _, _, hv, hf, he, _⟩ := headP_some hh
      have := one_l7 L hL hn (0, 0, ([] : List Int), ([] : List Bool), ([] : List (Int × Int × Int × Unit)), 0, ()) (L.length - 1) 1 o (by omega) (by rw [he, List.length_nil]; omega) (by rw [hv, List.length_nil]; omega) (by rw [hf, List.length_nil]; omega)
      rw [show L.drop 1 = r from by rw [hc]; rfl] at this
      exact this
end
/-! ### what is read may be told, and is told as these lines -/
structure TellOk (o : OutT) : Prop where
  step : 0 ≤ o.1 ∧ o.1 ≤ 1099511627776
  phase : 0 ≤ o.2.1 ∧ o.2.1 ≤ 1099511627776
  vals : ∀ x ∈ o.2.2.1, word' x
  len : o.2.2.1.length = 3 * o.2.2.2.1.length
  evs : ∀ e ∈ o.2.2.2.2.1, e.1 = o.1 ∧ (1 ≤ e.2.1 ∧ e.2.1 ≤ 11) ∧ 0 ≤ e.2.2.1 ∧ e.2.2.1 ≤ 1099511627776
  status : 0 ≤ o.2.2.2.2.2.1 ∧ o.2.2.2.2.2.1 ≤ 3
theorem evts_spec : ∀ (r : List ByteArray) (o : OutT), ∃ es : List EvT, (evts r o).1 = (o.1, o.2.1, o.2.2.1, o.2.2.2.1, o.2.2.2.2.1 ++ es, o.2.2.2.2.2) ∧ r = es.map evS ++ (evts r o).2 ∧ ∀ e ∈ es, e.1 = o.1 ∧ (1 ≤ e.2.1 ∧ e.2.1 ≤ 11) ∧ 0 ≤ e.2.2.1 ∧ e.2.2.1 ≤ 1099511627776
  | [], o => ⟨[], by rw [evts, List.append_nil], rfl, fun e he => by cases he⟩
  | s :: r, o => by
    rw [evts]
    cases he : eventP s o.1 with
    | none => exact ⟨[], by simp only [List.append_nil], rfl, fun e he => by cases he⟩
    | some e =>
      obtain ⟨h1, h2, h3, h4⟩ := eventP_some he
      obtain ⟨es, k1, k2, k3⟩ := evts_spec r (o.1, o.2.1, o.2.2.1, o.2.2.2.1, o.2.2.2.2.1 ++ [(e.1, e.2.1, e.2.2, ())], o.2.2.2.2.2)
      simp only at k1 k2 k3 ⊢
      refine ⟨(e.1, e.2.1, e.2.2, ()) :: es, ?_, ?_, fun x hx => ?_⟩
      · rw [k1, List.append_assoc]
        rfl
      · rw [List.map_cons, h1, List.cons_append, ← k2]
      · rcases List.mem_cons.1 hx with rfl | hx
        · exact ⟨h2, h3, h4⟩
        · exact k3 x hx
theorem grpS_at {o : OutT} {v w : List Int} {f g : List Bool} {l : List Int} {b : Bool} (hv : o.2.2.1 = v ++ (l ++ w)) (hf : o.2.2.2.1 = f ++ (b :: g)) (h3 : v.length = 3 * f.length) (hl : l.length = 3) :
    grpS o f.length = (⟨#[32, 32, 103, 114, 111, 117, 112]⟩ : ByteArray) ++ tailS (tellv (f.length : Int) :: (decL l ++ (if b = true then [(⟨#[102, 114, 111, 122, 101, 110]⟩ : ByteArray)] else []))) := by
  unfold grpS grpW
  have e1 : (o.2.2.1.take (3 * f.length + 3)).drop (3 * f.length) = l := by
    rw [hv, ← h3, ← hl, ← List.length_append, ← List.append_assoc, List.take_left, List.drop_left]
  have e2 : o.2.2.2.1.getD f.length false = b := by
    rw [hf, List.getD_eq_getElem?_getD, List.getElem?_append_right (Nat.le_refl _), Nat.sub_self]
    rfl
  have e3 : f.length < o.2.2.2.1.length := by rw [hf, List.length_append, List.length_cons]; omega
  rw [e1, e2]
  simp only [e3, true_and]
theorem grps_spec : ∀ (r : List ByteArray) (o : OutT), o.2.2.1.length = 3 * o.2.2.2.1.length → (∀ x ∈ o.2.2.1, word' x) → ∃ (vs : List Int) (fs : List Bool), (grps r o).1 = (o.1, o.2.1, o.2.2.1 ++ vs, o.2.2.2.1 ++ fs, o.2.2.2.2) ∧ vs.length = 3 * fs.length ∧ (∀ x ∈ vs, word' x) ∧
    r = (List.range' o.2.2.2.1.length fs.length).map (grpS (grps r o).1) ++ (grps r o).2
  | [], o, h3, hw => ⟨[], [], by rw [grps, List.append_nil, List.append_nil], rfl, fun x hx => (by cases hx), rfl⟩
  | s :: r, o, h3, hw => by
    have hs := fun g (hg : groupP s (o.2.2.2.1.length : Int) = some g) => show grps (s :: r) o = grps r (o.1, o.2.1, o.2.2.1 ++ g.1, o.2.2.2.1 ++ [g.2], o.2.2.2.2) from by rw [grps, hg]
    cases he : groupP s (o.2.2.2.1.length : Int) with
    | none =>
      have hn : grps (s :: r) o = (o, s :: r) := by rw [grps, he]
      rw [hn]
      exact ⟨[], [], by simp only [List.append_nil], rfl, fun x hx => (by cases hx), rfl⟩
    | some g =>
      obtain ⟨l, b⟩ := g
      obtain ⟨e1, e2, e3⟩ := groupP_some he
      rw [hs _ he]
      obtain ⟨vs, fs, k1, k2, k3, k4⟩ := grps_spec r (o.1, o.2.1, o.2.2.1 ++ l, o.2.2.2.1 ++ [b], o.2.2.2.2) (by simp only [List.length_append, List.length_cons, List.length_nil]; omega) (fun x hx => by
        rcases List.mem_append.1 hx with q | q
        · exact hw x q
        · exact e3 x q)
      simp only at k1 k4 ⊢
      refine ⟨l ++ vs, b :: fs, ?_, ?_, fun x hx => ?_, ?_⟩
      · rw [k1, List.append_assoc, List.append_assoc]
        rfl
      · rw [List.length_append, List.length_cons]
        omega
      · rcases List.mem_append.1 hx with q | q
        · exact e3 x q
        · exact k3 x q
      · have hg : grpS (grps r (o.1, o.2.1, o.2.2.1 ++ l, o.2.2.2.1 ++ [b], o.2.2.2.2)).1 o.2.2.2.1.length = s := by
          rw [e1, k1]
          refine grpS_at (v := o.2.2.1) (w := vs) (f := o.2.2.2.1) (g := fs) (l := l) (b := b) ?_ ?_ h3 e2
          · simp only [List.append_assoc]
          · simp only [List.append_assoc, List.cons_append, List.nil_append]
        rw [List.length_cons, List.range'_succ, List.map_cons, hg, List.cons_append]
        congr 1
        have : (o.2.2.2.1 ++ [b]).length = o.2.2.2.1.length + 1 := by simp
        rw [this] at k4
        exact k4
theorem oneP_spec {L : List ByteArray} (h : (oneP L).2 ≠ 0) : (oneP L).2 ≤ L.length ∧ stepL (oneP L).1 = L.take (oneP L).2 ∧ TellOk (oneP L).1 := by
  cases hc : L with
  | nil => rw [hc] at h; exact absurd rfl h
  | cons s r =>
    rw [hc] at h
    cases hh : headP s with
    | none => rw [oneP, hh] at h; exact absurd rfl h
    | some o =>
      have ho : oneP (s :: r) = ((evts (grps r o).2 (grps r o).1).1, (s :: r).length - (evts (grps r o).2 (grps r o).1).2.length) := by rw [oneP, hh]
      obtain ⟨h1, h2, h3, hv, hf, he, h4, h5⟩ := headP_some hh
      obtain ⟨vs, fs, k1, k2, k3, k4⟩ := grps_spec r o (by rw [hv, hf]; rfl) (by rw [hv]; intro x hx; cases hx)
      obtain ⟨es, m1, m2, m3⟩ := evts_spec (grps r o).2 (grps r o).1
      rw [ho]
      generalize hr2 : (evts (grps r o).2 (grps r o).1).2 = r2 at *
      generalize hg2 : (grps r o).2 = g2 at *
      rw [hv, hf, List.nil_append, List.nil_append] at k1
      rw [k1] at m1 m3 k4
      rw [hf, List.length_nil] at k4
      rw [k1, m1]
      simp only [he, List.nil_append] at m1 m3 ⊢
      have hrl : r = (List.range' 0 fs.length).map (grpS (o.1, o.2.1, vs, fs, o.2.2.2.2)) ++ (es.map evS ++ r2) := by rw [← m2]; exact k4
      have hst : stepL (o.1, o.2.1, vs, fs, es, o.2.2.2.2.2) = s :: ((List.range' 0 fs.length).map (grpS (o.1, o.2.1, vs, fs, o.2.2.2.2)) ++ es.map evS) := by
        unfold stepL
        simp only
        rw [k2, Nat.mul_div_cancel_left _ (by decide), List.drop_zero]
        rw [← h1]
        rfl
      have hlen := congrArg List.length hrl
      simp only [List.length_append, List.length_map, List.length_range'] at hlen
      have hn : (s :: r).length - r2.length = (s :: ((List.range' 0 fs.length).map (grpS (o.1, o.2.1, vs, fs, o.2.2.2.2)) ++ es.map evS)).length := by
        simp only [List.length_append, List.length_map, List.length_range', List.length_cons]
        omega
      refine ⟨Nat.sub_le _ _, ?_, ⟨h2, h3, k3, k2, m3, h4, h5⟩⟩
      rw [hst, hn]
      conv => rhs; rw [hrl, ← List.append_assoc]
      exact (List.take_left (l₁ := s :: ((List.range' 0 fs.length).map (grpS (o.1, o.2.1, vs, fs, o.2.2.2.2)) ++ es.map evS)) (l₂ := r2)).symm
end Go.Proofs.YtcgdhpnobgimfaaDoor.Num
end
section
namespace Go.Proofs.YtcgdhpnobgimfaaDoor.Num
set_option linter.unusedVariables false
set_option linter.unusedSimpArgs false
open Go.RowKit Go.Proofs.YtcgdhpnobgimfaaDoor.PI Go.Proofs.YtcgdhpnobgimfaaDoorW.PrintWords Go.Proofs.YtcgdhpnobgimfaaDoorW.PrintMore

theorem tcount_ok (a : Int) : trace_count.f a = some (decide (0 ≤ a ∧ a ≤ 1099511627776)) := by
  unfold trace_count.f
  by_cases h : a ≥ 0
  · rw [if_pos h]
    congr 1
    exact decide_eq_decide.2 ⟨fun q => ⟨h, q⟩, fun q => q.2⟩
  · rw [if_neg h, decide_eq_false (fun q => h q.1)]
theorem event_c1 {o : OutT} {e : EvT} (h : e.1 = o.1 ∧ (1 ≤ e.2.1 ∧ e.2.1 ≤ 11) ∧ 0 ≤ e.2.2.1 ∧ e.2.2.1 ≤ 1099511627776) : Ev (fun k => trace_Check_c1.f k e o) false := by
  unfold trace_Check_c1.f
  refine evp h.1 ?_
  refine evs (word_ok36 _) ?_
  refine evn (fun q => ((word_all e.2.1).2.2.1 (q.trans nil_tl)) h.2.1) ?_
  refine evs (tcount_ok _) ?_
  rw [decide_eq_true h.2.2]
  exact Ev.now _
theorem index_c1 (o : OutT) (es : List EvT) (he : ∀ e ∈ es, e.1 = o.1 ∧ (1 ≤ e.2.1 ∧ e.2.1 ≤ 11) ∧ 0 ≤ e.2.2.1 ∧ e.2.2.1 ≤ 1099511627776) (hl : es.length ≤ 1000) (d : Nat) : ∀ i : Nat, i + d = es.length →
    Ev (fun k => slices_IndexFunc___api_Event_api_Event__31.l2 k es (some (o, ())) (es.length : Int) (i : Int)) (-1) := by
  induction d with
  | zero =>
    intro i h
    refine Ev.step (fun k => by rw [slices_IndexFunc___api_Event_api_Event__31.l2]) ?_
    refine evn (by omega) ?_
    exact Ev.now _
  | succ d ih =>
    intro i h
    have hi : i < es.length := by omega
    refine Ev.step (fun k => by rw [slices_IndexFunc___api_Event_api_Event__31.l2]) ?_
    refine evp (by omega) ?_
    refine evp (by omega) ?_
    refine evp (by omega) ?_
    refine evs rfl ?_
    refine Ev.bind (event_c1 (he _ (mem_getD (0, 0, 0, ()) (i := i) hi))) ?_
    refine evn (by simp) ?_
    rw [w64_succ (by omega)]
    exact ih (i + 1) (by omega)
theorem check_ok {o : OutT} (ok : TellOk o) (hf : o.2.2.2.1.length ≤ 1000) (he : o.2.2.2.2.1.length ≤ 1000) : Ev (fun k => trace_Check.f k o) 0 := by
  have h3 := ok.len
  have hs := ok.status
  unfold trace_Check.f
  refine evs (tcount_ok _) ?_
  refine evn (by rw [decide_eq_true ok.step]; decide) ?_
  refine evs (tcount_ok _) ?_
  refine evn (by rw [decide_eq_true ok.phase]; decide) ?_
  refine evn (by omega) ?_
  refine evn (by omega) ?_
  refine evp (by rw [w64_id (by omega) (by omega)]; omega) ?_
  have hc : Ev (fun k => slices_ContainsFunc___api_Event_api_Event__31.f k o.2.2.2.2.1 (some (o, ()))) false := by
    unfold slices_ContainsFunc___api_Event_api_Event__31.f slices_IndexFunc___api_Event_api_Event__31.f
    refine Ev.bind (index_c1 o _ ok.evs he _ 0 (Nat.zero_add _)) ?_
    exact Ev.now _
  refine Ev.bind hc ?_
  refine evn (by simp) ?_
  exact Ev.now _
theorem TellOk.out {o : OutT} (ok : TellOk o) (h : (stepL o).length ≤ 100) : OutOk o := by
  have h3 := ok.len
  have h1 := ok.step
  have h2 := ok.phase
  unfold stepL at h
  rw [h3, Nat.mul_div_cancel_left _ (by decide)] at h
  simp only [List.length_append, List.length_map, List.length_range', List.length_cons, List.length_nil, List.length_drop] at h
  refine ⟨by unfold word'; omega, by unfold word'; omega, ok.vals, by omega, by omega, by omega, fun e he => ?_⟩
  have := (ok.evs e he).2.2
  unfold word'
  omega
theorem TellOk.lens {o : OutT} (ok : TellOk o) (h : (stepL o).length ≤ 100) : o.2.2.2.1.length ≤ 100 ∧ o.2.2.2.2.1.length ≤ 100 := by
  have h3 := ok.len
  unfold stepL at h
  rw [h3, Nat.mul_div_cancel_left _ (by decide)] at h
  simp only [List.length_append, List.length_map, List.length_range', List.length_cons, List.length_nil, List.length_drop] at h
  omega
theorem take_drop_parts {α : Type} {L : List α} {i a n : Nat} (h : i + a ≤ n) : (L.drop i).take a ++ (L.take n).drop (i + a) = (L.take n).drop i := by
  have e : (L.drop i).take a = ((L.take n).drop i).take a := by
    rw [List.drop_take, List.take_take, Nat.min_eq_left (by omega)]
  have e2 : (L.take n).drop (i + a) = ((L.take n).drop i).drop a := by rw [List.drop_drop]
  rw [e, e2, List.take_append_drop]
theorem all_l3 (L : List ByteArray) (hL : ∀ w ∈ L, w.size ≤ 1000) (hn : L.length ≤ 900) (m : Nat) : ∀ (i : Nat) (acc : List OutT), L.length - i ≤ m → i ≤ L.length → acc.length + m ≤ 10000 →
    ∃ (os : List OutT) (n : Nat), Ev (fun k => trace_All.l3 k L acc (i : Int)) (acc ++ os, (n : Int), ()) ∧ i ≤ n ∧ n ≤ L.length ∧ os.flatMap stepL = (L.take n).drop i ∧ ∀ o ∈ os, TellOk o ∧ (stepL o).length ≤ L.length := by
  induction m with
  | zero =>
    intro i acc h hi ha
    have e : i = L.length := by omega
    refine ⟨[], i, ?_, Nat.le_refl _, hi, ?_, fun o ho => by cases ho⟩
    · refine Ev.step (fun k => by rw [trace_All.l3]) ?_
      refine evp (by omega) ?_
      refine evp (by omega) ?_
      rw [show ((i : Int)).toNat = i from rfl, e, List.drop_length]
      refine Ev.bind (one_ok [] (fun w hw => by cases hw) (by decide)) ?_
      refine evp rfl ?_
      rw [List.append_nil]
      exact Ev.now _
    · rw [List.drop_eq_nil_of_le (by rw [List.length_take]; omega)]
      rfl
  | succ m ih =>
    intro i acc h hi ha
    have hone := one_ok (L.drop i) (fun w hw => hL w (List.mem_of_mem_drop hw)) (by rw [List.length_drop]; omega)
    by_cases c : (oneP (L.drop i)).2 = 0
    · refine ⟨[], i, ?_, Nat.le_refl _, hi, ?_, fun o ho => by cases ho⟩
      · refine Ev.step (fun k => by rw [trace_All.l3]) ?_
        refine evp (by omega) ?_
        refine evp (by omega) ?_
        rw [show ((i : Int)).toNat = i from rfl]
        refine Ev.bind hone ?_
        refine evp (by simp only [c]; rfl) ?_
        rw [List.append_nil]
        exact Ev.now _
      · rw [List.drop_eq_nil_of_le (by rw [List.length_take]; omega)]
        rfl
    · obtain ⟨h1, h2, h3⟩ := oneP_spec c
      rw [List.length_drop] at h1
      obtain ⟨os, n, k1, k2, k3, k4, k5⟩ := ih (i + (oneP (L.drop i)).2) (acc ++ [(oneP (L.drop i)).1]) (by omega) (by omega) (by simp only [List.length_append, List.length_cons, List.length_nil]; omega)
      refine ⟨(oneP (L.drop i)).1 :: os, n, ?_, by omega, k3, ?_, fun o ho => ?_⟩
      · refine Ev.step (fun k => by rw [trace_All.l3]) ?_
        refine evp (by omega) ?_
        refine evp (by omega) ?_
        rw [show ((i : Int)).toNat = i from rfl]
        refine Ev.bind hone ?_
        refine evn (by simp only; omega) ?_
        refine evp (by simp only [List.length_cons, List.length_nil]; omega) ?_
        rw [w64_add (by omega) (by omega)]
        rw [List.append_assoc] at k1
        exact k1
      · rw [List.flatMap_cons, k4, h2]
        exact take_drop_parts k2
      · rcases List.mem_cons.1 ho with rfl | ho
        · refine ⟨h3, ?_⟩
          rw [h2, List.length_take, List.length_drop]
          omega
        · exact k5 o ho
end Go.Proofs.YtcgdhpnobgimfaaDoor.Num
end
section
namespace Go.Proofs.YtcgdhpnobgimfaaDoor.Num
set_option linter.unusedVariables false
set_option linter.unusedSimpArgs false
open Go.RowKit Go.Proofs.YtcgdhpnobgimfaaDoor.PI Go.Proofs.YtcgdhpnobgimfaaDoorW.PrintWords Go.Proofs.YtcgdhpnobgimfaaDoorW.PrintMore Go.Sym

theorem awake57_ok : Ev (fun k => regimenlaw57_awake.f k) true := Ev.of (fun k => regimenlaw57_awake.mono k) (k := 200) (by decide +kernel)
theorem again_l11 (L : List ByteArray) (ts : List OutT) (n : Nat) (hn : n ≤ L.length) (hL : L.length ≤ 40) (hts : ts.flatMap stepL = L.take n) (ok : ∀ o ∈ ts, TellOk o ∧ (stepL o).length ≤ L.length) (hl : ts.length ≤ 1000) (d : Nat) : ∀ i : Nat, i + d = ts.length →
    Ev (fun k => regimenlaw57_TraceAgain.l11 k L ts (n : Int) ((ts.take i).flatMap stepL) (i : Int)) true := by
  induction d with
  | zero =>
    intro i h
    refine Ev.step (fun k => by rw [regimenlaw57_TraceAgain.l11]) ?_
    refine evn (by omega) ?_
    refine evp (by omega) ?_
    refine evp (by omega) ?_
    refine evp (by omega) ?_
    refine evp (by omega) ?_
    rw [List.take_of_length_le (by omega), hts, show ((n : Int)).toNat = n from rfl]
    refine Ev.bind (texts_ok _ (by rw [List.length_take]; omega)) ?_
    refine evp rfl ?_
    exact Ev.bind awake57_ok (Ev.now _)
  | succ d ih =>
    intro i h
    have hi : i < ts.length := by omega
    have hg : ts.getD ((i : Int)).toNat (0, 0, ([] : List Int), ([] : List Bool), ([] : List (Int × Int × Int × Unit)), 0, ()) = ts[i] := by
      rw [show ((i : Int)).toNat = i from rfl, List.getD_eq_getElem?_getD, List.getElem?_eq_getElem hi]
      rfl
    obtain ⟨o1, o2⟩ := ok ts[i] (List.getElem_mem hi)
    have o3 := o1.lens (by omega)
    have e : (ts.take (i + 1)).flatMap stepL = (ts.take i).flatMap stepL ++ stepL ts[i] := by
      rw [List.take_add_one, List.getElem?_eq_getElem hi, List.flatMap_append]
      simp
    have le : ((ts.take i).flatMap stepL).length ≤ 40 := by
      have e2 : ts.flatMap stepL = (ts.take i).flatMap stepL ++ (ts.drop i).flatMap stepL := by rw [← List.flatMap_append, List.take_append_drop]
      have := congrArg List.length hts
      rw [e2, List.length_append, List.length_take] at this
      omega
    refine Ev.step (fun k => by rw [regimenlaw57_TraceAgain.l11]) ?_
    refine evp (by omega) ?_
    refine evp (by omega) ?_
    refine evp (by omega) ?_
    rw [hg]
    refine Ev.bind (check_ok o1 (by omega) (by omega)) ?_
    refine evp rfl ?_
    refine evp (by omega) ?_
    refine evp (by omega) ?_
    refine Ev.bind (step_ok (o1.out (by omega))) ?_
    refine evp (by omega) ?_
    rw [w64_succ (by omega), ← e]
    exact ih (i + 1) (by omega)
theorem again_l4 (L : List ByteArray) (hn : L.length ≤ 40) (d : Nat) : ∀ i : Nat, i + d = L.length → (∀ j, j < i → (L.getD j nilB).size ≤ 200) → Ev (fun k => regimenlaw57_TraceAgain.l4 k L (i : Int)) true := by
  induction d with
  | zero =>
    intro i h hj
    have hL : ∀ w ∈ L, w.size ≤ 1000 := fun w hw => by
      obtain ⟨j, hj1, hj2⟩ := List.mem_iff_getElem.1 hw
      have := hj j (by omega)
      rw [List.getD_eq_getElem?_getD, List.getElem?_eq_getElem hj1] at this
      rw [← hj2]
      have : (L[j]).size ≤ 200 := this
      omega
    obtain ⟨os, n, k1, k2, k3, k4, k5⟩ := all_l3 L hL (by omega) L.length 0 [] (Nat.sub_le _ _) (Nat.zero_le _) (by simp only [List.length_nil]; omega)
    rw [List.nil_append] at k1
    rw [List.drop_zero] at k4
    have ho : os.length ≤ 1000 := by
      have key : ∀ (l : List OutT), l.length ≤ (l.flatMap stepL).length := by
        intro l
        induction l with
        | nil => exact Nat.zero_le _
        | cons o l ih =>
          rw [List.flatMap_cons, List.length_append, List.length_cons]
          have : 0 < (stepL o).length := by unfold stepL; simp
          omega
      have := key os
      rw [k4, List.length_take] at this
      omega
    refine Ev.step (fun k => by rw [regimenlaw57_TraceAgain.l4]) ?_
    refine evn (by omega) ?_
    refine Ev.bind (g := fun k => trace_All.f k L) (by unfold trace_All.f; exact k1) ?_
    exact again_l11 L os n k3 hn k4 k5 ho os.length 0 (Nat.zero_add _)
  | succ d ih =>
    intro i h hj
    refine Ev.step (fun k => by rw [regimenlaw57_TraceAgain.l4]) ?_
    refine evp (by omega) ?_
    refine evp (by omega) ?_
    refine evp (by omega) ?_
    rw [show ((i : Int)).toNat = i from rfl]
    by_cases c : (L.getD i nilB).size ≤ 200
    · refine evn (by show ¬ (((L.getD i nilB).size : Int) > 200); omega) ?_
      rw [w64_succ (by omega)]
      refine ih (i + 1) (by omega) fun j hj2 => ?_
      rcases Nat.lt_or_eq_of_le (Nat.le_of_lt_succ hj2) with q | rfl
      · exact hj j q
      · exact c
    · refine evp (by show ((L.getD i nilB).size : Int) > 200; omega) ?_
      exact Ev.bind awake57_ok (Ev.now _)
theorem again_ok (L : List ByteArray) : Ev (fun k => regimenlaw57_TraceAgain.f k L) true := by
  unfold regimenlaw57_TraceAgain.f
  by_cases c : L.length ≤ 40
  · refine evn (by omega) ?_
    exact again_l4 L c L.length 0 (Nat.zero_add _) fun j hj => by omega
  · refine evp (by omega) ?_
    exact Ev.bind awake57_ok (Ev.now _)
end Go.Proofs.YtcgdhpnobgimfaaDoor.Num
namespace Go.Proofs.YtcgdhpnobgimfaaDoor
set_option linter.unusedVariables false
open Go.Sym Go.Proofs.YtcgdhpnobgimfaaDoor.Num Go.Proofs.YtcgdhpnobgimfaaDoor.PI
theorem Pure.TraceAgain (y0 : El (.sl .str)) (w0 : Wf (.sl .str) y0) : ∃ k, regimenlaw57_TraceAgain.c.fn k (y0, ()) = some true := by
  obtain ⟨K, h⟩ := again_ok y0
  exact ⟨K, h K (Nat.le_refl _)⟩
end Go.Proofs.YtcgdhpnobgimfaaDoor
end
