/- What may be told, by the program and by the document (layer 57). Lines of a trace: what the document's answer reads of a line is what is read of it (layer 57). A step's lines (layer 45), by value: the reference's. A state's lines (layer 45), by value. A state's lines (layer 45), by value: the rounds. A state's lines (layer 45), by value: the reference's. The text of a trace and of a state (layer 45). A step's lines are read as that step (layer 57). No line holds the byte 10 (layer 57). Which step lines begin with, by the document's answer (layer 57). Which step lines begin with, by the document's answer (layer 57): groups, heads, all steps. Which steps any lines begin with (layer 57): by the document's answer, and by the code; and that equal steps are told as the same. A trace told as text is read back as it was. -/
import Derived.Test.YtcgdhpnobgimfaaGreatDoorMTB7
import Derived.Test.YtcgdhpnobgimfaaGreatDoorMTB4
import Derived.Test.YtcgdhpnobgimfaaGreatDoorMTB5
import Derived.Test.YtcgdhpnobgimfaaGreatDoorMTB6
set_option linter.unusedVariables false
set_option linter.unusedSimpArgs false
section
namespace Go.Proofs.YtcgdhpnobgimfaaGreatDoor.Num
open Go.RowKit Go.Proofs.YtcgdhpnobgimfaaGreatDoor.PB Go.Proofs.YtcgdhpnobgimfaaGreatDoorW.PrintWords Go.Proofs.YtcgdhpnobgimfaaGreatDoorW.PrintMore

def evOk (o : OutT) (e : EvT) : Prop := e.1 = o.1 ∧ (1 ≤ e.2.1 ∧ e.2.1 ≤ 11) ∧ 0 ≤ e.2.2.1 ∧ e.2.2.1 ≤ 1099511627776
instance (o : OutT) (e : EvT) : Decidable (evOk o e) := by unfold evOk; exact inferInstance
theorem nil_toList : (⟨#[]⟩ : ByteArray).toList = ([] : List UInt8) := by decide +kernel
theorem c1_ok (o : OutT) (e : EvT) : Ev (fun k => trace_Check_c1.f k e o) (decide (¬ evOk o e)) := by
  unfold trace_Check_c1.f
  by_cases c1 : e.1 = o.1
  · refine evp c1 ?_
    refine evs (word_ok36 _) ?_
    by_cases c2 : 1 ≤ e.2.1 ∧ e.2.1 ≤ 11
    · refine evn (fun q => (word_all e.2.1).2.2.1 (by rw [q, nil_toList]) c2) ?_
      refine evs (tcount_ok _) ?_
      have : (decide (¬ evOk o e)) = !decide (0 ≤ e.2.2.1 ∧ e.2.2.1 ≤ 1099511627776) := by
        rw [decide_not]
        congr 1
        exact decide_eq_decide.2 ⟨fun h => h.2.2, fun h => ⟨c1, c2, h⟩⟩
      rw [this]
      exact Ev.now _
    · refine evp (by rw [nil_toList]; exact (word_all e.2.1).2.2.2 c2) ?_
      rw [decide_eq_true (p := ¬ evOk o e) (fun h => c2 h.2.1)]
      exact Ev.now _
  · refine evn c1 ?_
    rw [decide_eq_true (p := ¬ evOk o e) (fun h => c1 h.1)]
    exact Ev.now _
theorem index_c2 (o : OutT) (es : List EvT) (hl : es.length ≤ 1000) (d : Nat) : ∀ i : Nat, i + d = es.length →
    ∃ r : Int, Ev (fun k => slices_IndexFunc___api_Event_api_Event__34.l2 k es (some (o, ())) (es.length : Int) (i : Int)) r ∧ (0 ≤ r ↔ ¬ ∀ e ∈ es.drop i, evOk o e) := by
  induction d with
  | zero =>
    intro i h
    refine ⟨-1, ?_, ?_⟩
    · refine Ev.step (fun k => by rw [slices_IndexFunc___api_Event_api_Event__34.l2]) ?_
      refine evn (by omega) ?_
      exact Ev.now _
    · rw [List.drop_eq_nil_of_le (by omega : es.length ≤ i)]
      exact ⟨fun h => by omega, fun h => absurd (fun e he => (by cases he)) h⟩
  | succ d ih =>
    intro i h
    have hi : i < es.length := by omega
    have hg : es.getD i (0, 0, 0, ()) = es[i] := by rw [List.getD_eq_getElem?_getD, List.getElem?_eq_getElem hi]; rfl
    have hd := List.drop_eq_getElem_cons hi
    by_cases c : evOk o es[i]
    · obtain ⟨r, h1, h2⟩ := ih (i + 1) (by omega)
      refine ⟨r, ?_, h2.trans ?_⟩
      · refine Ev.step (fun k => by rw [slices_IndexFunc___api_Event_api_Event__34.l2]) ?_
        refine evp (by omega) ?_
        refine evp (by omega) ?_
        refine evp (by omega) ?_
        refine evs (g := (some (o, ()) : Option (OutT × Unit))) (a := (o, ())) rfl ?_
        rw [show ((i : Int)).toNat = i from rfl, hg, w64_succ (by omega)]
        refine Ev.bind (c1_ok o es[i]) ?_
        refine evn (by simp [c]) ?_
        exact h1
      · rw [hd]
        constructor
        · exact fun q z => q fun e he => z e (List.mem_cons_of_mem _ he)
        · exact fun q z => q fun e he => by
            rcases List.mem_cons.1 he with rfl | he
            · exact c
            · exact z e he
    · refine ⟨i, ?_, ?_⟩
      · refine Ev.step (fun k => by rw [slices_IndexFunc___api_Event_api_Event__34.l2]) ?_
        refine evp (by omega) ?_
        refine evp (by omega) ?_
        refine evp (by omega) ?_
        refine evs (g := (some (o, ()) : Option (OutT × Unit))) (a := (o, ())) rfl ?_
        rw [show ((i : Int)).toNat = i from rfl, hg]
        refine Ev.bind (c1_ok o es[i]) ?_
        refine evp (by simp [c]) ?_
        exact Ev.now _
      · rw [hd]
        exact ⟨fun _ z => c (z _ List.mem_cons_self), fun _ => by omega⟩
open Classical in
theorem check_all (o : OutT) (hv : ∀ x ∈ o.2.2.1, word' x) (hf : o.2.2.2.1.length ≤ 1000) (he : o.2.2.2.2.1.length ≤ 1000) : Ev (fun k => trace_Check.f k o) (if TellOk o then 0 else 1) := by
  by_cases ok : TellOk o
  · rw [if_pos ok]
    exact check_ok ok hf he
  · rw [if_neg ok]
    unfold trace_Check.f
    refine evs (tcount_ok _) ?_
    by_cases c1 : 0 ≤ o.1 ∧ o.1 ≤ 1099511627776
    · refine evn (by rw [decide_eq_true c1]; decide) ?_
      refine evs (tcount_ok _) ?_
      by_cases c2 : 0 ≤ o.2.1 ∧ o.2.1 ≤ 1099511627776
      · refine evn (by rw [decide_eq_true c2]; decide) ?_
        by_cases c3 : o.2.2.2.2.2.1 < 0
        · exact evp c3 (Ev.now _)
        · refine evn c3 ?_
          by_cases c4 : o.2.2.2.2.2.1 > 3
          · exact evp c4 (Ev.now _)
          · refine evn c4 ?_
            by_cases c5 : o.2.2.1.length = 3 * o.2.2.2.1.length
            · refine evp (by rw [w64_id (by omega) (by omega)]; omega) ?_
              obtain ⟨r, h1, h2⟩ := index_c2 o o.2.2.2.2.1 he _ 0 (Nat.zero_add _)
              have hc : Ev (fun k => slices_ContainsFunc___api_Event_api_Event__34.f k o.2.2.2.2.1 (some (o, ()))) true := by
                unfold slices_ContainsFunc___api_Event_api_Event__34.f slices_IndexFunc___api_Event_api_Event__34.f
                refine Ev.bind h1 ?_
                have : 0 ≤ r := h2.2 fun z => ok ⟨c1, c2, hv, c5, fun e hm => z e (by rw [List.drop_zero]; exact hm), by omega, by omega⟩
                rw [decide_eq_true (show r ≥ 0 from this)]
                exact Ev.now _
              refine Ev.bind hc ?_
              exact evp rfl (Ev.now _)
            · refine evn (by rw [w64_id (by omega) (by omega)]; omega) ?_
              exact Ev.now _
      · refine evp (by rw [decide_eq_false c2]; rfl) ?_
        exact Ev.now _
    · refine evp (by rw [decide_eq_false c1]; rfl) ?_
      exact Ev.now _
theorem rcount_ok (a : Int) : regimenref57_count.f a = some (decide (0 ≤ a ∧ a ≤ 1099511627776)) := by
  unfold regimenref57_count.f
  by_cases h : a ≥ 0
  · rw [if_pos h]
    congr 1
    exact decide_eq_decide.2 ⟨fun q => ⟨h, q⟩, fun q => q.2⟩
  · rw [if_neg h]
    congr 1
    exact (decide_eq_false fun q => h q.1).symm
open Classical in
theorem may_l2 (o : OutT) (hv : ∀ x ∈ o.2.2.1, word' x) (hn : o.2.2.1.length ≤ 1000) (hf : o.2.2.2.1.length ≤ 1000) (he : o.2.2.2.2.1.length ≤ 1000) (d : Nat) : ∀ i : Nat, i + d = o.2.2.2.2.1.length → (∀ e ∈ o.2.2.2.2.1.take i, evOk o e) →
    Ev (fun k => regimenref57_May_s.l2 k (i : Int) o) (decide (TellOk o)) := by
  induction d with
  | zero =>
    intro i h hp
    rw [List.take_of_length_le (by omega)] at hp
    refine Ev.step (fun k => by rw [regimenref57_May_s.l2]) ?_
    refine evn (by omega) ?_
    refine evs (rcount_ok _) ?_
    by_cases c1 : 0 ≤ o.1 ∧ o.1 ≤ 1099511627776
    rotate_left
    · rw [decide_eq_false (p := TellOk o) fun q => c1 q.step]
      exact evn (by rw [decide_eq_false c1]; decide) (Ev.now _)
    refine evp (decide_eq_true c1) ?_
    refine evs (rcount_ok _) ?_
    by_cases c2 : 0 ≤ o.2.1 ∧ o.2.1 ≤ 1099511627776
    rotate_left
    · rw [decide_eq_false (p := TellOk o) fun q => c2 q.phase]
      exact evn (by rw [decide_eq_false c2]; decide) (Ev.now _)
    refine evp (decide_eq_true c2) ?_
    by_cases c3 : o.2.2.2.2.2.1 ≥ 0
    rotate_left
    · rw [decide_eq_false (p := TellOk o) fun q => c3 q.status.1]
      exact evn c3 (Ev.now _)
    refine evp c3 ?_
    by_cases c4 : o.2.2.2.2.2.1 ≤ 3
    rotate_left
    · rw [decide_eq_false (p := TellOk o) fun q => c4 q.status.2]
      exact evn c4 (Ev.now _)
    refine evp c4 ?_
    refine evn (by decide) ?_
    rw [Int.tmod_eq_emod_of_nonneg (Int.natCast_nonneg _), Int.tdiv_eq_ediv_of_nonneg (Int.natCast_nonneg _)]
    by_cases c5 : (o.2.2.1.length : Int) % 3 = 0
    rotate_left
    · rw [decide_eq_false (p := TellOk o) fun q => c5 (by rw [q.len]; omega)]
      exact evn c5 (Ev.now _)
    refine evp c5 ?_
    refine evn (by decide) ?_
    rw [w64_id (by omega) (by omega), Bool.false_xor]
    have : decide (TellOk o) = decide ((o.2.2.2.1.length : Int) = (o.2.2.1.length : Int) / 3) := decide_eq_decide.2 ⟨fun q => by rw [q.len]; omega, fun q => ⟨c1, c2, hv, by omega, hp, c3, c4⟩⟩
    rw [this]
    exact Ev.now _
  | succ d ih =>
    intro i h hp
    have hi : i < o.2.2.2.2.1.length := by omega
    have hg : o.2.2.2.2.1.getD i (0, 0, 0, ()) = o.2.2.2.2.1[i] := by rw [List.getD_eq_getElem?_getD, List.getElem?_eq_getElem hi]; rfl
    have hno : ¬ evOk o o.2.2.2.2.1[i] → decide (TellOk o) = false := fun c => decide_eq_false fun q => c (q.evs _ (List.getElem_mem hi))
    refine Ev.step (fun k => by rw [regimenref57_May_s.l2]) ?_
    refine evp (by omega) ?_
    refine evp (by omega) ?_
    refine evp (by omega) ?_
    rw [show ((i : Int)).toNat = i from rfl, hg, w64_succ (by omega)]
    by_cases c1 : o.2.2.2.2.1[i].1 = o.1
    rotate_left
    · rw [hno fun q => c1 q.1]
      exact evn c1 (Ev.now _)
    refine evp c1 ?_
    by_cases c2 : o.2.2.2.2.1[i].2.1 < 1
    · rw [hno fun q => by have := q.2.1; omega]
      exact evp c2 (Ev.now _)
    refine evn c2 ?_
    by_cases c3 : o.2.2.2.2.1[i].2.1 > 11
    · rw [hno fun q => by have := q.2.1; omega]
      exact evp c3 (Ev.now _)
    refine evn c3 ?_
    refine evs (rcount_ok _) ?_
    by_cases c4 : 0 ≤ o.2.2.2.2.1[i].2.2.1 ∧ o.2.2.2.2.1[i].2.2.1 ≤ 1099511627776
    rotate_left
    · rw [hno fun q => c4 q.2.2]
      exact evp (by rw [decide_eq_false c4]; rfl) (Ev.now _)
    refine evn (by rw [decide_eq_true c4]; decide) ?_
    refine ih (i + 1) (by omega) fun e hm => ?_
    rw [List.take_add_one, List.getElem?_eq_getElem hi] at hm
    rcases List.mem_append.1 hm with q | q
    · exact hp e q
    · rw [List.mem_singleton.1 (show e ∈ [o.2.2.2.2.1[i]] from q)]
      exact ⟨c1, ⟨by omega, by omega⟩, c4⟩
open Classical in
theorem may_ok (o : OutT) (hv : ∀ x ∈ o.2.2.1, word' x) (hn : o.2.2.1.length ≤ 1000) (hf : o.2.2.2.1.length ≤ 1000) (he : o.2.2.2.2.1.length ≤ 1000) : Ev (fun k => regimenref57_May_s.f k o) (decide (TellOk o)) := by
  unfold regimenref57_May_s.f
  exact may_l2 o hv hn hf he _ 0 (Nat.zero_add _) (fun e hm => by cases hm)
end Go.Proofs.YtcgdhpnobgimfaaGreatDoor.Num
end
section
namespace Go.Proofs.YtcgdhpnobgimfaaGreatDoor.Num
open Go.RowKit Go.Proofs.YtcgdhpnobgimfaaGreatDoor.PB Go.Proofs.YtcgdhpnobgimfaaGreatDoorW.PrintWords Go.Proofs.YtcgdhpnobgimfaaGreatDoorW.PrintMore

theorem getv_range (l : List Int) : 0 ≤ (getv l).1 ∧ (getv l).1 ≤ 1099511627776 := by
  by_cases h : (getv l).2 = 0
  · obtain ⟨_, h1, h2, h3, _⟩ := get_back h
    omega
  · unfold getv at h ⊢
    split
    · exact ⟨by decide, by decide⟩
    · rename_i h1
      rw [if_neg h1] at h
      split
      · exact ⟨by decide, by decide⟩
      · rename_i h2
        rw [if_neg h2] at h
        exact absurd rfl h
theorem tell_word {n : Int} (h : 0 ≤ n ∧ n ≤ 1099511627776) : word' n := by unfold word'; omega
theorem get_tell {n : Int} (h : 0 ≤ n ∧ n ≤ 1099511627776) : getv (numsOf (tellv n)) = (n, 0) := by
  have hw : -9223372036854775808 ≤ n ∧ n < 9223372036854775808 := tell_word h
  rw [(telll_byte hw).1]
  exact (telll_get hw).2 (by omega)
theorem tell_free {n : Int} (h : word' n) : (32 : Int) ∉ numsOf (tellv n) := by
  have hw : -9223372036854775808 ≤ n ∧ n < 9223372036854775808 := h
  rw [(telll_byte hw).1]
  intro q
  rcases (telll_byte hw).2 _ q with c | c
  · omega
  · have := c.1
    omega
theorem stat_word {a : Int} (h : 0 ≤ a ∧ a ≤ 3) : statv (wordS a) = a ∧ (32 : Int) ∉ numsOf (wordS a) := by
  obtain rfl | rfl | rfl | rfl : a = 0 ∨ a = 1 ∨ a = 2 ∨ a = 3 := by omega
  all_goals exact ⟨by decide +kernel, by decide +kernel⟩
def rstat (w : ByteArray) : Int := if w = wordS 3 then 3 else if w = wordS 2 then 2 else if w = wordS 1 then 1 else 0
theorem rstat_word {a : Int} (h : 0 ≤ a ∧ a ≤ 3) : rstat (wordS a) = a := by
  obtain rfl | rfl | rfl | rfl : a = 0 ∨ a = 1 ∨ a = 2 ∨ a = 3 := by omega
  all_goals decide +kernel
theorem rstat_range (w : ByteArray) : 0 ≤ rstat w ∧ rstat w ≤ 3 := by
  unfold rstat
  repeat' split
  all_goals omega
theorem rstat_statv {w : ByteArray} (h : ¬ statv w < 0) : rstat w = statv w := by
  obtain ⟨h1, h2, h3⟩ := statv_word h
  conv => lhs; rw [← h1]
  exact rstat_word ⟨h2, h3⟩
def headR (s : ByteArray) : OutT := ((getv (numsOf ((partsB 32 s).getD 1 nilB))).1, (getv (numsOf ((partsB 32 s).getD 3 nilB))).1, [], [], [], rstat ((partsB 32 s).getD 4 nilB), ())
theorem head_words {o : OutT} (h1 : word' o.1) (h2 : word' o.2.1) (h3 : 0 ≤ o.2.2.2.2.2.1 ∧ o.2.2.2.2.2.1 ≤ 3) : partsB 32 (headS o) = [stepB, tellv o.1, phaseB, tellv o.2.1, wordS o.2.2.2.2.2.1] := by
  unfold headS
  refine words_of _ _ fun w hw => ?_
  simp only [List.mem_cons, List.not_mem_nil, or_false] at hw
  rcases hw with rfl | rfl | rfl | rfl | rfl
  · decide +kernel
  · exact tell_free h1
  · decide +kernel
  · exact tell_free h2
  · exact (stat_word h3).2
theorem headP_eq (s : ByteArray) : headP s = if (partsB 32 s).length = 5 ∧ headS (headR s) = s then some (headR s) else none := by
  by_cases c : (partsB 32 s).length = 5 ∧ headS (headR s) = s
  · rw [if_pos c]
    have r1 : 0 ≤ (headR s).1 ∧ (headR s).1 ≤ 1099511627776 := getv_range _
    have r2 : 0 ≤ (headR s).2.1 ∧ (headR s).2.1 ≤ 1099511627776 := getv_range _
    have r3 : 0 ≤ (headR s).2.2.2.2.2.1 ∧ (headR s).2.2.2.2.2.1 ≤ 3 := rstat_range _
    have hw := head_words (o := headR s) (tell_word r1) (tell_word r2) r3
    rw [c.2] at hw
    have w0 : (partsB 32 s).getD 0 nilB = stepB := by rw [hw]; rfl
    have w1 : (partsB 32 s).getD 1 nilB = tellv (headR s).1 := (congrArg (fun W : List ByteArray => W.getD 1 nilB) hw)
    have w2 : (partsB 32 s).getD 2 nilB = phaseB := by rw [hw]; rfl
    have w3 : (partsB 32 s).getD 3 nilB = tellv (headR s).2.1 := (congrArg (fun W : List ByteArray => W.getD 3 nilB) hw)
    have w4 : (partsB 32 s).getD 4 nilB = wordS (headR s).2.2.2.2.2.1 := (congrArg (fun W : List ByteArray => W.getD 4 nilB) hw)
    have g1 : (getv (numsOf ((partsB 32 s).getD 1 nilB))).2 = 0 := by
      rw [w1, get_tell r1]
    have g3 : (getv (numsOf ((partsB 32 s).getD 3 nilB))).2 = 0 := by
      rw [w3, get_tell r2]
    have g4 : statv ((partsB 32 s).getD 4 nilB) = (headR s).2.2.2.2.2.1 := by
      rw [w4, (stat_word r3).1]
    have g5 : ¬ statv ((partsB 32 s).getD 4 nilB) < 0 := by
      rw [g4]
      exact Int.not_lt.2 r3.1
    unfold headP
    rw [if_pos ⟨c.1, w0, w2, g1, g3, g5⟩, g4]
    rfl
  · rw [if_neg c]
    cases h : headP s with
    | none => rfl
    | some o =>
      exfalso
      have hs := (headP_some h).1
      unfold headP at h
      split at h
      · rename_i q
        cases h
        refine c ⟨q.1, ?_⟩
        rw [← rstat_statv q.2.2.2.2.2] at hs
        exact hs
      · cases h
theorem decv_valid {l : List Int} (h : (decv l).2 = 0) : valid (body l) := by
  unfold decv at h
  split at h
  · assumption
  · cases h
theorem valid_free {l : List Int} (h : valid (body l)) : (32 : Int) ∉ l := by
  obtain ⟨hA, hF, _⟩ := valid_dig h
  have e := valid_split h
  have hb : (32 : Int) ∉ body l := by
    intro hx
    rw [e] at hx
    rcases List.mem_append.1 hx with q | q
    · have := (hA _ q).1
      omega
    · by_cases c : lead (body l) = (body l).length
      · rw [if_pos c] at q
        cases q
      · rw [if_neg c] at q
        rcases List.mem_cons.1 q with q | q
        · omega
        · have := (hF _ q).1
          omega
  intro hx
  unfold body isneg at hb
  by_cases c : 0 < l.length ∧ l.getD 0 0 = 45
  · rw [decide_eq_true c, if_pos rfl] at hb
    cases l with
    | nil => cases hx
    | cons y t =>
      have hy : y = 45 := c.2
      rcases List.mem_cons.1 hx with q | q
      · omega
      · exact hb q
  · rw [decide_eq_false c, if_neg (by simp)] at hb
    exact hb hx
theorem decS_valid {x : Int} (h : word' x) : valid (body (numsOf (decS x))) := decv_valid (by rw [decv_decS h])
def frW (b : Bool) : List ByteArray := if b = true then [(⟨#[102, 114, 111, 122, 101, 110]⟩ : ByteArray)] else []
noncomputable def grpG (i : Int) (l : List Int) (b : Bool) : ByteArray := (⟨#[32, 32, 103, 114, 111, 117, 112]⟩ : ByteArray) ++ tailS (tellv i :: (decL l ++ frW b))
theorem decL_free {l : List Int} (hl : ∀ x ∈ l, word' x) : ∀ w ∈ decL l, (32 : Int) ∉ numsOf w := fun w hw => by
  obtain ⟨x, hx, rfl⟩ := List.mem_map.1 hw
  exact valid_free (decS_valid (hl x hx))
theorem tail_small {L : List ByteArray} (h : ∀ w ∈ L, ∀ y ∈ numsOf w, y ≤ 57) : ∀ y ∈ numsOf (tailS L), y ≤ 57 := by
  induction L with
  | nil =>
    intro y hy
    rw [tailS] at hy
    cases hy
  | cons w L ih =>
    intro y hy
    rw [tailS, nums_app, nums_app, List.mem_append, List.mem_append] at hy
    rcases hy with (q | q) | q
    · have : y = 32 := by
        rw [show numsOf (⟨#[32]⟩ : ByteArray) = [32] from rfl, List.mem_singleton] at q
        exact q
      omega
    · exact h w List.mem_cons_self y q
    · exact ih (fun w hw => h w (List.mem_cons_of_mem _ hw)) y q
theorem groupP_G {i : Int} {l : List Int} {b : Bool} (h3 : l.length = 3) (hl : ∀ x ∈ l, word' x) : groupP (grpG i l b) i = some (l, b) := by
  cases l with
  | nil => cases h3
  | cons x l =>
    have hl2 : ∀ y ∈ l, word' y := fun y hy => hl y (List.mem_cons_of_mem _ hy)
    have hx := hl x List.mem_cons_self
    have e8 : (⟨#[32, 32, 103, 114, 111, 117, 112, 32]⟩ : ByteArray) = (⟨#[32, 32, 103, 114, 111, 117, 112]⟩ : ByteArray) ++ (⟨#[32]⟩ : ByteArray) := rfl
    have e : grpG i (x :: l) b = gpre i ++ (decS x ++ tailS (decL l ++ frW b)) := by
      unfold grpG gpre
      rw [e8, show decL (x :: l) = decS x :: decL l from rfl, List.cons_append, tailS, tailS]
      simp only [app_assoc]
    have hb : bodyG (decS x ++ tailS (decL l ++ frW b)) = (decS x ++ tailS (decL l), b) := by
      unfold bodyG
      cases b with
      | true =>
        have e9 : tailS (frW true) = frzB := by decide +kernel
        rw [tailS_app, e9, ← app_assoc, before_app]
      | false =>
        rw [show frW false = [] from rfl, List.append_nil]
        cases hq : beforeS frzB (decS x ++ tailS (decL l)) with
        | none => rfl
        | some r =>
          exfalso
          have hr := before_some hq
          have h1 : (102 : Int) ∈ numsOf (decS x ++ tailS (decL l)) := by
            rw [hr, nums_app, List.mem_append]
            exact .inr (by decide +kernel)
          have sm : ∀ {x : Int}, word' x → ∀ y ∈ numsOf (decS x), y ≤ 57 := fun hx => valid_small (decS_valid hx)
          rw [nums_app, List.mem_append] at h1
          have : (102 : Int) ≤ 57 := by
            rcases h1 with q | q
            · exact sm hx _ q
            · refine tail_small (fun w hw => ?_) _ q
              obtain ⟨z, hz, rfl⟩ := List.mem_map.1 hw
              exact sm (hl2 z hz)
          omega
    have hw : partsB 32 (decS x ++ tailS (decL l)) = decL (x :: l) := words_of _ _ fun w hw => by
      rw [show decS x :: decL l = decL (x :: l) from rfl] at hw
      exact decL_free hl w hw
    unfold groupP
    rw [e, after_app]
    simp only
    rw [hb]
    simp only
    rw [hw, ownL_decL hl]
    simp only
    rw [if_pos h3]
end Go.Proofs.YtcgdhpnobgimfaaGreatDoor.Num
end
section
namespace Go.Proofs.YtcgdhpnobgimfaaGreatDoor.Num
open Go.RowKit Go.Proofs.YtcgdhpnobgimfaaGreatDoor.PB Go.Proofs.YtcgdhpnobgimfaaGreatDoorW.PrintWords Go.Proofs.YtcgdhpnobgimfaaGreatDoorW.PrintMore

section
variable {o : OutT} (ok : OutOk o)
include ok
end
end Go.Proofs.YtcgdhpnobgimfaaGreatDoor.Num
end
section
namespace Go.Proofs.YtcgdhpnobgimfaaGreatDoor.Num
open Go.RowKit Go.Proofs.YtcgdhpnobgimfaaGreatDoor.PB Go.Proofs.YtcgdhpnobgimfaaGreatDoorW.PrintWords Go.Proofs.YtcgdhpnobgimfaaGreatDoorW.PrintMore

abbrev KeptT := Int × Int × Unit
abbrev StateT := Int × Int × Int × (Bool × Int × Int × Unit) × ((Bool × Int × Int × Unit) × Int × Int × Unit) × (List KeptT) × (List Int) × (Int × (List Int) × Unit) × Unit
abbrev kepts (s : StateT) : List KeptT := s.2.2.2.2.2.1
abbrev emas (s : StateT) : List Int := s.2.2.2.2.2.2.1
abbrev swc (s : StateT) : Int := s.2.2.2.2.2.2.2.1.1
abbrev sws (s : StateT) : List Int := s.2.2.2.2.2.2.2.1.2.1
def headT (s : StateT) : ByteArray := (⟨#[115, 116, 97, 116, 101]⟩ : ByteArray) ++ tailS [wordS s.2.1, tellv s.1]
noncomputable def keptS (k : KeptT) : ByteArray := (⟨#[107, 101, 112, 116]⟩ : ByteArray) ++ tailS [tellv k.1, decS k.2.1]
noncomputable def emaP (s : StateT) : List ByteArray := if 0 < (emas s).length then [(⟨#[101, 109, 97]⟩ : ByteArray) ++ tailS (decL (emas s))] else []
def meanL (s : StateT) : List Int := tab (fun i => meanv (swc s) ((sws s).getD i 0)) (sws s).length
open Classical in
noncomputable def swaP (s : StateT) : List ByteArray := if smay (swc s) (sws s) ∧ 0 < swc s then [(⟨#[115, 119, 97]⟩ : ByteArray) ++ tailS (tellv (swc s) :: decL (meanL s))] else []
structure StateOk (s : StateT) : Prop where
  step : word' s.1
  kept1 : ∀ k, k ∈ kepts s → word' k.1
  kept2 : ∀ k, k ∈ kepts s → word' k.2.1
  nk : (kepts s).length ≤ 30
  ema : ∀ x, x ∈ emas s → word' x
  ne : (emas s).length ≤ 30
  cnt : word' (swc s)
  sums : ∀ x, x ∈ sws s → word' x
  ns : (sws s).length ≤ 30
noncomputable def stateL (s : StateT) : List ByteArray := [headT s] ++ ((kepts s).drop 0).map keptS ++ emaP s ++ swaP s
section
variable {s : StateT} (ok : StateOk s)
include ok
theorem state_j9 (acc : List ByteArray) (ha : acc.length ≤ 1000) (hm0 : 0 < swc s → ∀ x, x ∈ meanL s → word' x) : Ev (fun k => output_State_s.j9 k acc s) (acc ++ swaP s) := by
  have ns := ok.ns
  refine Ev.step (fun k => by rw [output_State_s.j9]) ?_
  by_cases m : smay (swc s) (sws s)
  · have e := swa_mean_ok (swc s) (sws s) ok.sums (by omega) m
    refine Ev.bind e ?_
    refine evp rfl ?_
    by_cases c : 0 < swc s
    · have hm := hm0 c
      refine evp c ?_
      refine Ev.bind (tell_ok ok.cnt) ?_
      have dk := decs_ok hm (by unfold meanL; rw [tab_length]; omega)
      refine Ev.bind dk ?_
      have ml : (meanL s).length ≤ 30 := by unfold meanL; rw [tab_length]; omega
      refine evp (by rw [decL_len]; simp only [List.length_cons, List.length_nil]; omega) ?_
      have lj := line_join (b := (⟨#[115, 119, 97]⟩ : ByteArray)) (l := tellv (swc s) :: decL (meanL s)) (by decide) (by rw [List.length_cons, decL_len]; omega) (by
        intro b h
        rcases List.mem_cons.1 h with rfl | h
        · exact tellv_100 ok.cnt
        · exact decL_size hm b h)
      refine evs lj ?_
      refine evp (by simp only [List.length_cons, List.length_nil]; omega) ?_
      refine Ev.step (fun k => by rw [output_State_s.j12]) ?_
      unfold swaP
      rw [if_pos ⟨m, c⟩]
      exact Ev.now _
    · refine evn c ?_
      refine Ev.step (fun k => by rw [output_State_s.j12]) ?_
      unfold swaP
      rw [if_neg (fun h => c h.2), List.append_nil]
      exact Ev.now _
  · refine Ev.bind (swa_mean_no (swc s) (sws s) m) ?_
    refine evn (by decide) ?_
    refine Ev.step (fun k => by rw [output_State_s.j12]) ?_
    unfold swaP
    rw [if_neg (fun h => m h.1), List.append_nil]
    exact Ev.now _
end
end Go.Proofs.YtcgdhpnobgimfaaGreatDoor.Num
end
section
namespace Go.Proofs.YtcgdhpnobgimfaaGreatDoor.Num
open Go.RowKit Go.Proofs.YtcgdhpnobgimfaaGreatDoor.PB Go.Proofs.YtcgdhpnobgimfaaGreatDoorW.PrintWords Go.Proofs.YtcgdhpnobgimfaaGreatDoorW.PrintMore

section
variable {s : StateT} (ok : StateOk s)
include ok
theorem mean_word (h0 : 0 < swc s) : ∀ x, x ∈ meanL s → word' x := by
  intro x hx
  unfold meanL tab at hx
  obtain ⟨i, _, rfl⟩ := List.mem_map.1 hx
  have m := mean_rnd (c := swc s) (getD_word' ok.sums i) h0
  unfold meanv sgn word'
  repeat' split
  all_goals (dsimp only; omega)
theorem state_l3 (hj : ∀ acc : List ByteArray, acc.length ≤ 1000 → Ev (fun k => output_State_s.j9 k acc s) (acc ++ swaP s)) (d : Nat) : ∀ (i : Nat) (acc : List ByteArray), i + d = (kepts s).length → acc.length + d ≤ 900 →
    Ev (fun k => output_State_s.l3 k acc (kepts s) ((kepts s).length : Int) (i : Int) s) (acc ++ ((kepts s).drop i).map keptS ++ emaP s ++ swaP s) := by
  have nk := ok.nk
  have ne := ok.ne
  have ne' : s.2.2.2.2.2.2.1.length ≤ 30 := ne
  induction d with
  | zero =>
    intro i acc h ha
    refine Ev.step (fun k => by rw [output_State_s.l3]) ?_
    refine evn (by omega) ?_
    rw [List.drop_eq_nil_of_le (by omega), List.map_nil, List.append_nil]
    by_cases c : 0 < (emas s).length
    · refine evp (Int.natCast_pos.2 c) ?_
      refine Ev.bind (decs_ok ok.ema (by omega)) ?_
      refine evp (by rw [decL_len]; simp only [List.length_cons, List.length_nil]; omega) ?_
      refine evs (line_join (b := (⟨#[101, 109, 97]⟩ : ByteArray)) (l := decL (emas s)) (by decide) (by rw [decL_len]; omega) (decL_size ok.ema)) ?_
      refine evp (by simp only [List.length_cons, List.length_nil]; omega) ?_
      unfold emaP
      rw [if_pos c]
      exact hj _ (by simp only [List.length_append, List.length_cons, List.length_nil]; omega)
    · refine evn (fun h => c (Int.natCast_pos.1 h)) ?_
      unfold emaP
      rw [if_neg c, List.append_nil]
      exact hj _ (by omega)
  | succ d ih =>
    intro i acc h ha
    have k1 := ok.kept1 _ (mem_getD (0, 0, ()) (i := i) (by omega : i < (kepts s).length))
    have k2 := ok.kept2 _ (mem_getD (0, 0, ()) (i := i) (by omega : i < (kepts s).length))
    refine Ev.step (fun k => by rw [output_State_s.l3]) ?_
    refine evp (by omega) ?_
    refine evp (by omega) ?_
    refine evp (by omega) ?_
    refine Ev.bind (tell_ok k1) ?_
    refine Ev.bind (dput_ok k2) ?_
    have hb : ∀ b, b ∈ [tellv ((kepts s).getD i (0, 0, ())).1, decS ((kepts s).getD i (0, 0, ())).2.1] → b.size ≤ 100 := by
      intro b h
      simp only [List.mem_cons, List.not_mem_nil, or_false] at h
      rcases h with rfl | rfl
      · exact tellv_100 k1
      · exact decS_size k2
    refine evs (line_join (b := (⟨#[107, 101, 112, 116]⟩ : ByteArray)) (by decide) (by simp only [List.length_cons, List.length_nil]; omega) hb) ?_
    refine evp (by simp only [List.length_cons, List.length_nil]; omega) ?_
    rw [w64_succ (by omega)]
    have := ih (i + 1) (acc ++ [keptS ((kepts s).getD i (0, 0, ()))]) (by omega) (by simp only [List.length_append, List.length_cons, List.length_nil]; omega)
    rw [drop_cons (0, 0, ()) (by omega : i < (kepts s).length), List.map_cons]
    simp only [List.append_assoc, List.cons_append, List.nil_append] at this ⊢
    exact this
theorem state_ok : Ev (fun k => output_State_s.f k s) (stateL s) := by
  have nk := ok.nk
  unfold output_State_s.f
  refine evs (oword_ok _) ?_
  refine Ev.bind (tell_ok ok.step) ?_
  have hb : ∀ b, b ∈ [wordS s.2.1, tellv s.1] → b.size ≤ 100 := by
    intro b h
    simp only [List.mem_cons, List.not_mem_nil, or_false] at h
    rcases h with rfl | rfl
    · exact Nat.le_trans (wordS_size _) (by decide)
    · exact tellv_100 ok.step
  refine evs (line_join (by decide) (by simp only [List.length_cons, List.length_nil]; omega) hb) ?_
  exact state_l3 ok (fun acc h => state_j9 ok acc h (mean_word ok)) (kepts s).length 0 _ (by omega) (by simp only [List.length_cons, List.length_nil]; omega)
end
end Go.Proofs.YtcgdhpnobgimfaaGreatDoor.Num
end
section
namespace Go.Proofs.YtcgdhpnobgimfaaGreatDoor.Num
open Go.RowKit Go.Proofs.YtcgdhpnobgimfaaGreatDoor.PB Go.Proofs.YtcgdhpnobgimfaaGreatDoorW.PrintWords Go.Proofs.YtcgdhpnobgimfaaGreatDoorW.PrintMore

section
variable {s : StateT} (ok : StateOk s)
include ok
theorem rstate_j8 (acc : List ByteArray) (ha : acc.length ≤ 1000) : Ev (fun k => regimenref45_State_s.j8 k acc s) (acc ++ swaP s) := by
  have ns := ok.ns
  refine Ev.step (fun k => by rw [regimenref45_State_s.j8]) ?_
  refine evs (ref_smay_ok (swc s) (sws s)) ?_
  have done : ¬ (smay (swc s) (sws s) ∧ 0 < swc s) → Ev (fun k => regimenref45_State_s.j10 k acc) (acc ++ swaP s) := by
    intro h
    refine Ev.step (fun k => by rw [regimenref45_State_s.j10]) ?_
    unfold swaP
    rw [if_neg h, List.append_nil]
    exact Ev.now _
  by_cases m : smay (swc s) (sws s)
  · refine evp (by simpa using m) ?_
    by_cases c : 0 < swc s
    · have hm := mean_word ok c
      have ml : (meanL s).length ≤ 30 := by unfold meanL; rw [tab_length]; omega
      have z := tailS_size (decL_size hm)
      rw [decL_len] at z
      have zt := tellv_100 ok.cnt
      have zt' : (tellv s.2.2.2.2.2.2.2.1.1).size ≤ 100 := zt
      have c4 : (⟨#[115, 119, 97, 32]⟩ : ByteArray).size = 4 := rfl
      refine evp c ?_
      refine Ev.bind (ref_tell_ok ok.cnt) ?_
      refine evp (by omega) ?_
      have me : Ev (fun k => regimenref34_Mean.f k (swc s) (sws s)) (meanL s) := by
        unfold regimenref34_Mean.f
        exact ref_mean_loop (swc s) (sws s) ok.sums c m.2.1 (by omega) (sws s).length 0 (by omega)
      refine Ev.bind me ?_
      have dk := tail_ok hm (by omega)
      refine Ev.bind dk ?_
      refine evp (by rw [size_app]; omega) ?_
      refine evp (by simp only [List.length_cons, List.length_nil]; omega) ?_
      refine Ev.step (fun k => by rw [regimenref45_State_s.j10]) ?_
      unfold swaP
      rw [if_pos ⟨m, c⟩]
      have e : (⟨#[115, 119, 97, 32]⟩ : ByteArray) ++ tellv (swc s) ++ tailS (decL (meanL s)) = (⟨#[115, 119, 97]⟩ : ByteArray) ++ tailS (tellv (swc s) :: decL (meanL s)) := by
        rw [show (⟨#[115, 119, 97, 32]⟩ : ByteArray) = (⟨#[115, 119, 97]⟩ : ByteArray) ++ (⟨#[32]⟩ : ByteArray) from rfl, tailS]
        simp only [app_assoc]
      rw [← e]
      exact Ev.now _
    · refine evn c ?_
      exact done fun h => c h.2
  · refine evn (by simpa using m) ?_
    exact done fun h => m h.1
theorem rstate_l3 (d : Nat) : ∀ (i : Nat) (acc : List ByteArray), i + d = (kepts s).length → acc.length + d ≤ 900 →
    Ev (fun k => regimenref45_State_s.l3 k acc (i : Int) s) (acc ++ ((kepts s).drop i).map keptS ++ emaP s ++ swaP s) := by
  have nk := ok.nk
  have nk' : s.2.2.2.2.2.1.length ≤ 30 := nk
  have ne := ok.ne
  have ne' : s.2.2.2.2.2.2.1.length ≤ 30 := ne
  induction d with
  | zero =>
    intro i acc h ha
    have h' : i + 0 = s.2.2.2.2.2.1.length := h
    refine Ev.step (fun k => by rw [regimenref45_State_s.l3]) ?_
    refine evn (by omega) ?_
    rw [List.drop_eq_nil_of_le (by omega), List.map_nil, List.append_nil]
    by_cases c : 0 < (emas s).length
    · refine evp (Int.natCast_pos.2 c) ?_
      have z := tailS_size (decL_size ok.ema)
      rw [decL_len] at z
      have c3 : (⟨#[101, 109, 97]⟩ : ByteArray).size = 3 := rfl
      have dk := tail_ok ok.ema (by omega)
      refine Ev.bind dk ?_
      refine evp (by omega) ?_
      refine evp (by simp only [List.length_cons, List.length_nil]; omega) ?_
      unfold emaP
      rw [if_pos c]
      exact rstate_j8 ok _ (by simp only [List.length_append, List.length_cons, List.length_nil]; omega)
    · refine evn (fun h => c (Int.natCast_pos.1 h)) ?_
      unfold emaP
      rw [if_neg c, List.append_nil]
      exact rstate_j8 ok _ (by omega)
  | succ d ih =>
    intro i acc h ha
    have h' : i + (d + 1) = s.2.2.2.2.2.1.length := h
    have k1 := ok.kept1 _ (mem_getD (0, 0, ()) (i := i) (by omega : i < (kepts s).length))
    have k2 := ok.kept2 _ (mem_getD (0, 0, ()) (i := i) (by omega : i < (kepts s).length))
    have z1 := tellv_100 k1
    have z2 := decS_size k2
    have c5 : (⟨#[107, 101, 112, 116, 32]⟩ : ByteArray).size = 5 := rfl
    have v1 : ∀ x, x ∈ [((kepts s).getD i (0, 0, ())).2.1] → word' x := fun x hx => by rw [List.mem_singleton.1 hx]; exact k2
    have z := tailS_size (decL_size v1)
    rw [decL_len, List.length_singleton] at z
    refine Ev.step (fun k => by rw [regimenref45_State_s.l3]) ?_
    refine evp (by omega) ?_
    refine evp (by omega) ?_
    refine evp (by omega) ?_
    have dt := ref_tell_ok k1
    refine Ev.bind dt ?_
    refine evp (by omega) ?_
    refine evp (by omega) ?_
    refine evp (by omega) ?_
    have dk := tail_ok v1 (by rw [List.length_singleton]; omega)
    refine Ev.bind dk ?_
    refine evp (by rw [size_app]; omega) ?_
    refine evp (by simp only [List.length_cons, List.length_nil]; omega) ?_
    rw [w64_succ (by omega)]
    have := ih (i + 1) (acc ++ [keptS ((kepts s).getD i (0, 0, ()))]) (by omega) (by simp only [List.length_append, List.length_cons, List.length_nil]; omega)
    rw [drop_cons (0, 0, ()) (by omega : i < (kepts s).length), List.map_cons]
    simp only [List.append_assoc, List.cons_append, List.nil_append] at this ⊢
    exact this
theorem rstate_ok : Ev (fun k => regimenref45_State_s.f k s) (stateL s) := by
  have nk := ok.nk
  have z1 := tellv_100 ok.step
  have z3 := wordS_size s.2.1
  have c6 : (⟨#[115, 116, 97, 116, 101, 32]⟩ : ByteArray).size = 6 := rfl
  have c1 := sz_one
  unfold regimenref45_State_s.f
  refine evs (rword_ok _) ?_
  refine evp (by omega) ?_
  refine evp (by rw [size_app]; omega) ?_
  refine Ev.bind (ref_tell_ok ok.step) ?_
  refine evp (by rw [size_app, size_app]; omega) ?_
  have e : (⟨#[115, 116, 97, 116, 101, 32]⟩ : ByteArray) ++ wordS s.2.1 ++ (⟨#[32]⟩ : ByteArray) ++ tellv s.1 = headT s := by
    unfold headT
    rw [show (⟨#[115, 116, 97, 116, 101, 32]⟩ : ByteArray) = (⟨#[115, 116, 97, 116, 101]⟩ : ByteArray) ++ (⟨#[32]⟩ : ByteArray) from rfl]
    simp only [tailS, app_assoc, app_nil]
  rw [e]
  exact rstate_l3 ok (kepts s).length 0 _ (by omega) (by simp only [List.length_cons, List.length_nil]; omega)
end
end Go.Proofs.YtcgdhpnobgimfaaGreatDoor.Num
end
section
namespace Go.Proofs.YtcgdhpnobgimfaaGreatDoor.Num
open Go.RowKit Go.Proofs.YtcgdhpnobgimfaaGreatDoor.PB Go.Proofs.YtcgdhpnobgimfaaGreatDoorW.PrintWords Go.Proofs.YtcgdhpnobgimfaaGreatDoorW.PrintMore

theorem grpS_small {o : OutT} (ok : OutOk o) (i : Nat) (hi : i < 1000) : (grpS o i).size ≤ 10000 := by
  unfold grpS
  have h : ∀ b, b ∈ tellv (i : Int) :: grpW o i → b.size ≤ 100 := fun b hb => by
    rcases List.mem_cons.1 hb with rfl | hb
    · exact tellv_100 ⟨by omega, by omega⟩
    · unfold grpW at hb
      rcases List.mem_append.1 hb with q | q
      · exact decL_size (grp_vals ok) b q
      · split at q
        · rw [List.mem_singleton.1 q]; decide
        · cases q
  have h2 := tailS_size h
  have h3 : (grpW o i).length ≤ 4 := by
    unfold grpW
    rw [List.length_append, decL_len, List.length_drop, List.length_take]
    split <;> simp only [List.length_cons, List.length_nil] <;> omega
  rw [List.length_cons] at h2
  rw [size_app]
  have h4 : (⟨#[32, 32, 103, 114, 111, 117, 112]⟩ : ByteArray).size = 7 := rfl
  omega
theorem headS_small {o : OutT} (ok : OutOk o) : (headS o).size ≤ 10000 := by
  unfold headS
  have h2 := tailS_size (l := [tellv o.1, (⟨#[112, 104, 97, 115, 101]⟩ : ByteArray), tellv o.2.1, wordS o.2.2.2.2.2.1]) (fun b hb => by
    simp only [List.mem_cons, List.not_mem_nil, or_false] at hb
    rcases hb with rfl | rfl | rfl | rfl
    · exact tellv_100 ok.step
    · decide
    · exact tellv_100 ok.phase
    · exact Nat.le_trans (wordS_size _) (by decide))
  rw [size_app]
  have h4 : (⟨#[115, 116, 101, 112]⟩ : ByteArray).size = 4 := rfl
  simp only [List.length_cons, List.length_nil] at h2
  omega
theorem step_small {o : OutT} (ok : OutOk o) : (∀ w ∈ stepL o, w.size ≤ 10000) ∧ (stepL o).length ≤ 1000 := by
  have hv := ok.nv
  have he := ok.ne
  unfold stepL
  refine ⟨fun w hw => ?_, ?_⟩
  · rcases List.mem_append.1 hw with hw | hw
    · rcases List.mem_append.1 hw with hw | hw
      · rw [List.mem_singleton.1 hw]
        exact headS_small ok
      · obtain ⟨i, hi, rfl⟩ := List.mem_map.1 hw
        rw [List.mem_range'_1] at hi
        exact grpS_small ok i (by omega)
    · obtain ⟨e, hm, rfl⟩ := List.mem_map.1 hw
      rw [List.drop_zero] at hm
      unfold evS
      rw [size_app]
      have := line_size (k := e.2.1) (ok.evs e hm)
      have h4 : (⟨#[32, 32]⟩ : ByteArray).size = 2 := rfl
      omega
  · simp only [List.length_append, List.length_map, List.length_range', List.length_cons, List.length_nil, List.length_drop]
    omega
theorem state_small {s : StateT} (ok : StateOk s) : (∀ w ∈ stateL s, w.size ≤ 10000) ∧ (stateL s).length ≤ 1000 := by
  have hk := ok.nk
  have he := ok.ne
  have hs := ok.ns
  unfold stateL
  refine ⟨fun w hw => ?_, ?_⟩
  · rcases List.mem_append.1 hw with hw | hw
    · rcases List.mem_append.1 hw with hw | hw
      · rcases List.mem_append.1 hw with hw | hw
        · rw [List.mem_singleton.1 hw]
          unfold headT
          have h2 := tailS_size (l := [wordS s.2.1, tellv s.1]) (fun b hb => by
            simp only [List.mem_cons, List.not_mem_nil, or_false] at hb
            rcases hb with rfl | rfl
            · exact Nat.le_trans (wordS_size _) (by decide)
            · exact tellv_100 ok.step)
          rw [size_app]
          have h4 : (⟨#[115, 116, 97, 116, 101]⟩ : ByteArray).size = 5 := rfl
          simp only [List.length_cons, List.length_nil] at h2
          omega
        · obtain ⟨k, hm, rfl⟩ := List.mem_map.1 hw
          rw [List.drop_zero] at hm
          unfold keptS
          have h2 := tailS_size (l := [tellv k.1, decS k.2.1]) (fun b hb => by
            simp only [List.mem_cons, List.not_mem_nil, or_false] at hb
            rcases hb with rfl | rfl
            · exact tellv_100 (ok.kept1 k hm)
            · exact decS_size (ok.kept2 k hm))
          rw [size_app]
          have h4 : (⟨#[107, 101, 112, 116]⟩ : ByteArray).size = 4 := rfl
          simp only [List.length_cons, List.length_nil] at h2
          omega
      · unfold emaP at hw
        split at hw
        · rw [List.mem_singleton.1 hw, size_app]
          have h2 := tailS_size (decL_size ok.ema)
          rw [decL_len] at h2
          have h4 : (⟨#[101, 109, 97]⟩ : ByteArray).size = 3 := rfl
          omega
        · cases hw
    · unfold swaP at hw
      split at hw
      · rename_i hc
        rw [List.mem_singleton.1 hw, size_app]
        have h2 := tailS_size (l := tellv (swc s) :: decL (meanL s)) (fun b hb => by
          rcases List.mem_cons.1 hb with rfl | hb
          · exact tellv_100 ok.cnt
          · exact decL_size (mean_word ok hc.2) b hb)
        have h5 : (meanL s).length = (sws s).length := by unfold meanL; rw [tab_length]
        rw [List.length_cons, decL_len, h5] at h2
        have h4 : (⟨#[115, 119, 97]⟩ : ByteArray).size = 3 := rfl
        omega
      · cases hw
  · unfold emaP swaP
    simp only [List.length_append, List.length_map, List.length_cons, List.length_nil, List.length_drop]
    split <;> split <;> simp only [List.length_cons, List.length_nil] <;> omega
theorem endL_small {L : List ByteArray} (h : ∀ w ∈ L, w.size ≤ 10000) : (endL L).length ≤ 10001 * L.length := by
  induction L with
  | nil => exact Nat.le_refl _
  | cons w r ih =>
    have h1 := h w List.mem_cons_self
    have h2 := ih fun x hx => h x (List.mem_cons_of_mem _ hx)
    have h3 : w.data.toList.length = w.size := rfl
    rw [endL, List.length_append, List.length_cons, List.length_cons]
    omega
noncomputable def allO (l : List OutT) : List ByteArray := (l.map stepL).flatten
theorem allO_small {l : List OutT} (h : ∀ o ∈ l, OutOk o) : (∀ w ∈ allO l, w.size ≤ 10000) ∧ (allO l).length ≤ 1000 * l.length := by
  induction l with
  | nil => exact ⟨fun w hw => (by cases hw), Nat.le_refl _⟩
  | cons o r ih =>
    have h1 := step_small (h o List.mem_cons_self)
    have h2 := ih fun x hx => h x (List.mem_cons_of_mem _ hx)
    have e : allO (o :: r) = stepL o ++ allO r := rfl
    rw [e]
    refine ⟨fun w hw => ?_, by rw [List.length_append, List.length_cons]; omega⟩
    rcases List.mem_append.1 hw with q | q
    · exact h1.1 w q
    · exact h2.1 w q
theorem steps_ok {l : List OutT} (h : ∀ o ∈ l, OutOk o) : Ev (fun k => stepsO k l) (allO l) := by
  induction l with
  | nil => exact Ev.now _
  | cons o r ih =>
    have ih := ih fun x hx => h x (List.mem_cons_of_mem _ hx)
    exact Ev.bind (g := fun k => output_Step_s.f k o) (step_ok (h o List.mem_cons_self)) (Ev.bind ih (Ev.now _))
noncomputable def textV (l : List OutT) (s : StateT) : ByteArray := ⟨(endL (allO l ++ stateL s)).toArray⟩
theorem text_small {l : List OutT} {s : StateT} (h : ∀ o ∈ l, OutOk o) (hn : l.length ≤ 6) (ok : StateOk s) : (∀ w ∈ allO l ++ stateL s, w.size ≤ 10000) ∧ (allO l ++ stateL s).length ≤ 7000 ∧ (endL (allO l ++ stateL s)).length ≤ 70007000 := by
  have h1 := allO_small h
  have h2 := state_small ok
  have h3 : ∀ w ∈ allO l ++ stateL s, w.size ≤ 10000 := fun w hw => by
    rcases List.mem_append.1 hw with q | q
    · exact h1.1 w q
    · exact h2.1 w q
  have h4 : (allO l ++ stateL s).length ≤ 7000 := by rw [List.length_append]; omega
  have h5 := endL_small h3
  exact ⟨h3, h4, by omega⟩
theorem ttext_ok {l : List OutT} {s : StateT} (h : ∀ o ∈ l, OutOk o) (hn : l.length ≤ 6) (ok : StateOk s) : Ev (fun k => output_Text.f k l s) (textV l s) := by
  have hs := text_small h hn ok
  unfold output_Text.f
  refine Ev.bind (steps_ok h) ?_
  refine Ev.bind (state_ok ok) ?_
  refine evp ⟨by omega, by omega⟩ ?_
  exact Ev.now _
end Go.Proofs.YtcgdhpnobgimfaaGreatDoor.Num
end
section
namespace Go.Proofs.YtcgdhpnobgimfaaGreatDoor.Num
open Go.RowKit Go.Proofs.YtcgdhpnobgimfaaGreatDoor.PB Go.Proofs.YtcgdhpnobgimfaaGreatDoorW.PrintWords Go.Proofs.YtcgdhpnobgimfaaGreatDoorW.PrintMore

def flush (w : ByteArray) : Prop := ∃ x r, numsOf w = x :: r ∧ x ≠ 32
theorem flush_app {a b : ByteArray} (h : flush a) : flush (a ++ b) := by
  obtain ⟨x, r, h1, h2⟩ := h
  exact ⟨x, r ++ numsOf b, by rw [nums_app, h1]; rfl, h2⟩
theorem flush_not {w b r : ByteArray} (h : flush w) : w ≠ (⟨#[32, 32]⟩ : ByteArray) ++ r := by
  obtain ⟨x, l, h1, h2⟩ := h
  intro e
  rw [e, nums_app, show numsOf (⟨#[32, 32]⟩ : ByteArray) = [32, 32] from rfl] at h1
  injection h1 with h3 _
  exact h2 h3.symm
theorem flush_head (o : OutT) : flush (headS o) := flush_app ⟨115, [116, 101, 112], rfl, by decide⟩
theorem flush_state (s : StateT) : flush (headT s) := flush_app ⟨115, [116, 97, 116, 101], rfl, by decide⟩
theorem gpre_two (i : Int) : gpre i = (⟨#[32, 32]⟩ : ByteArray) ++ ((⟨#[103, 114, 111, 117, 112, 32]⟩ : ByteArray) ++ tellv i ++ (⟨#[32]⟩ : ByteArray)) := by
  unfold gpre
  rw [show (⟨#[32, 32, 103, 114, 111, 117, 112, 32]⟩ : ByteArray) = (⟨#[32, 32]⟩ : ByteArray) ++ (⟨#[103, 114, 111, 117, 112, 32]⟩ : ByteArray) from by decide +kernel]
  simp only [app_assoc]
theorem flush_group {w : ByteArray} (h : flush w) (i : Int) : groupP w i = none := by
  unfold groupP
  cases c : afterP (gpre i) w with
  | none => rfl
  | some r =>
    have := after_some c
    rw [gpre_two, app_assoc] at this
    exact absurd this (flush_not (b := w) h)
theorem flush_event {w : ByteArray} (h : flush w) (step : Int) : eventP w step = none := by
  unfold eventP
  cases c : afterP (⟨#[32, 32]⟩ : ByteArray) w with
  | none => rfl
  | some r => exact absurd (after_some c) (flush_not (b := w) h)
theorem word_first : ∀ i : Nat, i < 12 → (numsOf (word i)).headD 0 ≠ 103 := by decide +kernel
theorem event_group {k n : Int} (hk : 1 ≤ k ∧ k ≤ 11) (i : Int) : groupP ((⟨#[32, 32]⟩ : ByteArray) ++ lineV k n) i = none := by
  unfold groupP
  cases c : afterP (gpre i) ((⟨#[32, 32]⟩ : ByteArray) ++ lineV k n) with
  | none => rfl
  | some r =>
    exfalso
    have := congrArg numsOf (after_some c)
    rw [gpre_two, app_assoc, nums_app, nums_app (⟨#[32, 32]⟩ : ByteArray)] at this
    have h2 := List.append_cancel_left this
    have hw : numsOf (headW k) ≠ [] ∧ (numsOf (headW k)).headD 0 ≠ 103 := by
      unfold headW
      rw [if_pos hk]
      obtain ⟨m, rfl⟩ : ∃ m : Nat, k = (m : Int) := ⟨k.toNat, by omega⟩
      have h3 := word_nat m (by omega)
      exact ⟨fun q => by have := h3.2.2.2.2 q; omega, word_first m (by omega)⟩
    unfold lineV at h2
    rw [nums_app, nums_app] at h2
    cases hc : numsOf (headW k) with
    | nil => exact hw.1 hc
    | cons x l =>
      rw [hc] at h2 hw
      rw [app_assoc, nums_app, nums_app, show numsOf (⟨#[103, 114, 111, 117, 112, 32]⟩ : ByteArray) = [103, 114, 111, 117, 112, 32] from rfl] at h2
      simp only [List.cons_append] at h2
      injection h2 with h4 _
      exact hw.2 h4
theorem event_back {o : OutT} {e : EvT} (h : evOk o e) : eventP (evS e) o.1 = some (e.1, e.2.1, e.2.2.1) := by
  obtain ⟨h1, h2, h3, h4⟩ := h
  have hp := parsed_line o.1 e.2.1 (n := e.2.2.1) (by omega)
  rw [if_pos ⟨h2, by omega⟩] at hp
  unfold eventP evS
  rw [after_app]
  show (if (parsed o.1 (numsOf (lineV e.2.1 e.2.2.1)) 11 1).2.2.2 = true then _ else none) = _
  rw [hp, if_pos rfl, h1]
theorem evts_back {o : OutT} {rest : List ByteArray} (hr : ∀ w ∈ rest.head?, eventP w o.1 = none) : ∀ (es : List EvT) (p : OutT), p.1 = o.1 → (∀ e ∈ es, evOk o e) → evts (es.map evS ++ rest) p = ((p.1, p.2.1, p.2.2.1, p.2.2.2.1, p.2.2.2.2.1 ++ es, p.2.2.2.2.2), rest)
  | [], p, hp, he => by
    rw [List.map_nil, List.nil_append, List.append_nil]
    cases rest with
    | nil => rfl
    | cons w r =>
      have := hr w rfl
      rw [← hp] at this
      rw [evts, this]
  | e :: es, p, hp, he => by
    have h1 := event_back (he e List.mem_cons_self)
    rw [← hp] at h1
    rw [List.map_cons, List.cons_append, evts, h1]
    show evts (es.map evS ++ rest) (p.1, p.2.1, p.2.2.1, p.2.2.2.1, p.2.2.2.2.1 ++ [e], p.2.2.2.2.2) = _
    have := evts_back hr es (p.1, p.2.1, p.2.2.1, p.2.2.2.1, p.2.2.2.2.1 ++ [e], p.2.2.2.2.2) hp fun x hx => he x (List.mem_cons_of_mem _ hx)
    rw [this]
    show (_, rest) = _
    rw [List.append_assoc]
    rfl
theorem grpS_G {o : OutT} (h3 : o.2.2.1.length = 3 * o.2.2.2.1.length) {i : Nat} (hi : i < o.2.2.2.1.length) : grpS o i = grpG (i : Int) ((o.2.2.1.take (3 * i + 3)).drop (3 * i)) (o.2.2.2.1[i]) := by
  have hg : o.2.2.2.1.getD i false = o.2.2.2.1[i] := by rw [List.getD_eq_getElem?_getD, List.getElem?_eq_getElem hi]; rfl
  unfold grpS grpW grpG frW
  rw [hg]
  by_cases c : o.2.2.2.1[i] = true
  · rw [if_pos ⟨hi, c⟩, if_pos c]
  · rw [if_neg (fun q => c q.2), if_neg c]
theorem grps_none {w : ByteArray} {p : OutT} (h : groupP w (p.2.2.2.1.length : Int) = none) (r : List ByteArray) : grps (w :: r) p = (p, w :: r) := by
  rw [grps, h]
theorem grps_some {w : ByteArray} {p : OutT} {l : List Int} {b : Bool} (h : groupP w (p.2.2.2.1.length : Int) = some (l, b)) (r : List ByteArray) : grps (w :: r) p = grps r (p.1, p.2.1, p.2.2.1 ++ l, p.2.2.2.1 ++ [b], p.2.2.2.2) := by
  rw [grps, h]
theorem grps_back {o : OutT} (ok : TellOk o) {rest : List ByteArray} (hr : ∀ w ∈ rest.head?, groupP w (o.2.2.2.1.length : Int) = none) (d : Nat) : ∀ i : Nat, i + d = o.2.2.2.1.length →
    grps ((List.range' i d).map (grpS o) ++ rest) (o.1, o.2.1, o.2.2.1.take (3 * i), o.2.2.2.1.take i, [], o.2.2.2.2.2) = ((o.1, o.2.1, o.2.2.1, o.2.2.2.1, [], o.2.2.2.2.2), rest) := by
  have h3 := ok.len
  induction d with
  | zero =>
    intro i h
    rw [List.take_of_length_le (by omega), List.take_of_length_le (by omega), List.range'_zero, List.map_nil, List.nil_append]
    cases rest with
    | nil => rfl
    | cons w r =>
      have := hr w rfl
      exact grps_none (p := (o.1, o.2.1, o.2.2.1, o.2.2.2.1, [], o.2.2.2.2.2)) this r
  | succ d ih =>
    intro i h
    have hi : i < o.2.2.2.1.length := by omega
    have hl : ((o.2.2.1.take (3 * i + 3)).drop (3 * i)).length = 3 := by rw [List.length_drop, List.length_take]; omega
    have hg := groupP_G (i := (i : Int)) (b := o.2.2.2.1[i]) hl (fun x hx => ok.vals x (List.mem_of_mem_take (List.mem_of_mem_drop hx)))
    have e1 : (o.2.2.2.1.take i).length = i := by rw [List.length_take]; omega
    rw [← grpS_G h3 hi] at hg
    have hk : groupP (grpS o i) ((o.2.2.2.1.take i).length : Int) = some ((o.2.2.1.take (3 * i + 3)).drop (3 * i), o.2.2.2.1[i]) := by rw [e1]; exact hg
    have hs := grps_some (w := grpS o i) (p := (o.1, o.2.1, o.2.2.1.take (3 * i), o.2.2.2.1.take i, [], o.2.2.2.2.2)) hk ((List.range' (i + 1) d).map (grpS o) ++ rest)
    rw [List.range'_succ, List.map_cons, List.cons_append]
    refine hs.trans ?_
    have e2 : o.2.2.1.take (3 * i) ++ (o.2.2.1.take (3 * i + 3)).drop (3 * i) = o.2.2.1.take (3 * (i + 1)) := by
      have : o.2.2.1.take (3 * i) = (o.2.2.1.take (3 * i + 3)).take (3 * i) := by rw [List.take_take, Nat.min_eq_left (by omega)]
      rw [this, List.take_append_drop, show 3 * i + 3 = 3 * (i + 1) by omega]
    have e3 : o.2.2.2.1.take i ++ [o.2.2.2.1[i]] = o.2.2.2.1.take (i + 1) := by rw [List.take_add_one, List.getElem?_eq_getElem hi]; rfl
    have := ih (i + 1) (by omega)
    rw [← e2, ← e3] at this
    exact this
theorem head_back {o : OutT} (ok : TellOk o) : headP (headS o) = some (o.1, o.2.1, [], [], [], o.2.2.2.2.2.1, ()) := by
  have hw := head_words (o := o) (tell_word ok.step) (tell_word ok.phase) ok.status
  have hR : headR (headS o) = (o.1, o.2.1, [], [], [], o.2.2.2.2.2.1, ()) := by
    unfold headR
    rw [hw]
    show ((getv (numsOf (tellv o.1))).1, (getv (numsOf (tellv o.2.1))).1, _, _, _, rstat (wordS o.2.2.2.2.2.1), ()) = _
    rw [get_tell ok.step, get_tell ok.phase, rstat_word ok.status]
  rw [headP_eq, hR, if_pos ⟨by rw [hw]; rfl, rfl⟩]
theorem one_back {o : OutT} (ok : TellOk o) {rest : List ByteArray} (hr : ∀ w ∈ rest.head?, flush w) : oneP (stepL o ++ rest) = (o, (stepL o).length) := by
  have h3 := ok.len
  have hn : o.2.2.1.length / 3 = o.2.2.2.1.length := by omega
  have hre : ∀ w ∈ (o.2.2.2.2.1.map evS ++ rest).head?, groupP w (o.2.2.2.1.length : Int) = none := fun w hw => by
    cases he : o.2.2.2.2.1 with
    | nil =>
      rw [he] at hw
      exact flush_group (hr w hw) _
    | cons e es =>
      rw [he] at hw
      have : w = evS e := (Option.mem_some.1 hw).symm
      rw [this]
      exact event_group (ok.evs e (by rw [he]; exact List.mem_cons_self)).2.1 _
  have hg := grps_back ok hre o.2.2.2.1.length 0 (Nat.zero_add _)
  rw [Nat.mul_zero, List.take_zero, List.take_zero] at hg
  have hv := evts_back (o := o) (rest := rest) (fun w hw => flush_event (hr w hw) _) o.2.2.2.2.1 (o.1, o.2.1, o.2.2.1, o.2.2.2.1, [], o.2.2.2.2.2) rfl (fun e he => ok.evs e he)
  have hL : stepL o ++ rest = headS o :: ((List.range' 0 o.2.2.2.1.length).map (grpS o) ++ (o.2.2.2.2.1.map evS ++ rest)) := by
    unfold stepL
    rw [hn, List.drop_zero, List.append_assoc, List.append_assoc]
    rfl
  rw [hL, oneP, head_back ok]
  show ((evts (grps _ (o.1, o.2.1, [], [], [], o.2.2.2.2.2)).2 (grps _ (o.1, o.2.1, [], [], [], o.2.2.2.2.2)).1).1, _ - (evts (grps _ (o.1, o.2.1, [], [], [], o.2.2.2.2.2)).2 (grps _ (o.1, o.2.1, [], [], [], o.2.2.2.2.2)).1).2.length) = _
  rw [hg]
  show ((evts _ (o.1, o.2.1, o.2.2.1, o.2.2.2.1, [], o.2.2.2.2.2)).1, _ - (evts _ (o.1, o.2.1, o.2.2.1, o.2.2.2.1, [], o.2.2.2.2.2)).2.length) = _
  rw [hv, ← hL]
  refine Prod.ext rfl ?_
  show (stepL o ++ rest).length - rest.length = _
  rw [List.length_append]
  omega
theorem state_words (s : StateT) (ok : word' s.1) : partsB 32 (headT s) = [(⟨#[115, 116, 97, 116, 101]⟩ : ByteArray), wordS s.2.1, tellv s.1] := by
  unfold headT
  refine words_of _ _ fun w hw => ?_
  simp only [List.mem_cons, List.not_mem_nil, or_false] at hw
  rcases hw with rfl | rfl | rfl
  · decide +kernel
  · unfold wordS
    repeat' split
    all_goals decide +kernel
  · exact tell_free ok
theorem one_state {s : StateT} (ok : word' s.1) (rest : List ByteArray) : oneP (headT s :: rest) = (zeroO, 0) := by
  have hn : headP (headT s) = none := by
    unfold headP
    rw [state_words s ok, if_neg]
    intro h
    exact absurd h.1 (by show ¬ (3 : Nat) = 5; decide)
  rw [oneP, hn]
end Go.Proofs.YtcgdhpnobgimfaaGreatDoor.Num
end
section
namespace Go.Proofs.YtcgdhpnobgimfaaGreatDoor.Num
open Go.RowKit Go.Proofs.YtcgdhpnobgimfaaGreatDoor.PB Go.Proofs.YtcgdhpnobgimfaaGreatDoorW.PrintWords Go.Proofs.YtcgdhpnobgimfaaGreatDoorW.PrintMore

def line' (w : ByteArray) : Prop := (10 : Int) ∉ numsOf w
theorem line_app {a b : ByteArray} (h : line' a) (k : line' b) : line' (a ++ b) := by
  unfold line' at *
  rw [nums_app]
  exact fun q => (List.mem_append.1 q).elim h k
theorem line_tail {l : List ByteArray} (h : ∀ w ∈ l, line' w) : line' (tailS l) := by
  induction l with
  | nil => exact by unfold line'; decide +kernel
  | cons b r ih =>
    have e : tailS (b :: r) = (⟨#[32]⟩ : ByteArray) ++ b ++ tailS r := rfl
    rw [e]
    exact line_app (line_app (by unfold line'; decide +kernel) (h b List.mem_cons_self)) (ih fun w hw => h w (List.mem_cons_of_mem _ hw))
theorem line_tell {n : Int} (h : word' n) : line' (tellv n) := by
  have hw : -9223372036854775808 ≤ n ∧ n < 9223372036854775808 := h
  unfold line'
  rw [(telll_byte hw).1]
  intro q
  rcases (telll_byte hw).2 _ q with c | c
  · omega
  · have := c.1
    omega
theorem valid_line {l : List Int} (h : valid (body l)) : (10 : Int) ∉ l := by
  obtain ⟨hA, hF, _⟩ := valid_dig h
  have e := valid_split h
  have hb : (10 : Int) ∉ body l := by
    intro hx
    rw [e] at hx
    rcases List.mem_append.1 hx with q | q
    · have := (hA _ q).1
      omega
    · by_cases c : lead (body l) = (body l).length
      · rw [if_pos c] at q
        cases q
      · rw [if_neg c] at q
        rcases List.mem_cons.1 q with q | q
        · omega
        · have := (hF _ q).1
          omega
  intro hx
  unfold body isneg at hb
  by_cases c : 0 < l.length ∧ l.getD 0 0 = 45
  · rw [decide_eq_true c, if_pos rfl] at hb
    cases l with
    | nil => cases hx
    | cons y t =>
      have hy : y = 45 := c.2
      rcases List.mem_cons.1 hx with q | q
      · omega
      · exact hb q
  · rw [decide_eq_false c, if_neg (by simp)] at hb
    exact hb hx
theorem line_dec {x : Int} (h : word' x) : line' (decS x) := valid_line (decS_valid h)
theorem line_decL {l : List Int} (h : ∀ x ∈ l, word' x) : ∀ w ∈ decL l, line' w := fun w hw => by
  obtain ⟨x, hx, rfl⟩ := List.mem_map.1 hw
  exact line_dec (h x hx)
theorem line_word (a : Int) : line' (wordS a) := by
  unfold wordS line'
  repeat' split
  all_goals decide +kernel
theorem line_headW (k : Int) : line' (headW k) := by
  unfold headW line'
  split
  · rename_i h
    obtain ⟨m, rfl⟩ : ∃ m : Nat, k = (m : Int) := ⟨k.toNat, by omega⟩
    have key : ∀ i : Nat, i < 12 → (10 : Int) ∉ numsOf (word i) := by decide +kernel
    exact key m (by omega)
  · decide +kernel
theorem line_two {a b : ByteArray} (h : line' a) (k : line' b) : ∀ w ∈ [a, b], line' w := fun w hw => by
  simp only [List.mem_cons, List.not_mem_nil, or_false] at hw
  rcases hw with rfl | rfl
  · exact h
  · exact k
theorem line_step {o : OutT} (ok : OutOk o) : ∀ w ∈ stepL o, line' w := by
  have hv := ok.nv
  intro w hw
  unfold stepL at hw
  rcases List.mem_append.1 hw with hw | hw
  · rcases List.mem_append.1 hw with hw | hw
    · rw [List.mem_singleton.1 hw]
      unfold headS
      refine line_app (by unfold line'; decide +kernel) (line_tail fun w hw => ?_)
      simp only [List.mem_cons, List.not_mem_nil, or_false] at hw
      rcases hw with rfl | rfl | rfl | rfl
      · exact line_tell ok.step
      · unfold line'; decide +kernel
      · exact line_tell ok.phase
      · exact line_word _
    · obtain ⟨i, hi, rfl⟩ := List.mem_map.1 hw
      rw [List.mem_range'_1] at hi
      unfold grpS
      refine line_app (by unfold line'; decide +kernel) (line_tail fun w hw => ?_)
      rcases List.mem_cons.1 hw with rfl | hw
      · exact line_tell ⟨by omega, by omega⟩
      · unfold grpW at hw
        rcases List.mem_append.1 hw with q | q
        · exact line_decL (grp_vals ok) w q
        · split at q
          · rw [List.mem_singleton.1 q]
            unfold line'
            decide +kernel
          · cases q
  · obtain ⟨e, hm, rfl⟩ := List.mem_map.1 hw
    rw [List.drop_zero] at hm
    unfold evS lineV
    exact line_app (by unfold line'; decide +kernel) (line_app (line_app (line_headW _) (by unfold line'; decide +kernel)) (line_tell (ok.evs e hm)))
theorem line_state {s : StateT} (ok : StateOk s) : ∀ w ∈ stateL s, line' w := by
  intro w hw
  unfold stateL at hw
  rcases List.mem_append.1 hw with hw | hw
  · rcases List.mem_append.1 hw with hw | hw
    · rcases List.mem_append.1 hw with hw | hw
      · rw [List.mem_singleton.1 hw]
        unfold headT
        exact line_app (by unfold line'; decide +kernel) (line_tail (line_two (line_word _) (line_tell ok.step)))
      · obtain ⟨k, hm, rfl⟩ := List.mem_map.1 hw
        rw [List.drop_zero] at hm
        unfold keptS
        exact line_app (by unfold line'; decide +kernel) (line_tail (line_two (line_tell (ok.kept1 k hm)) (line_dec (ok.kept2 k hm))))
    · unfold emaP at hw
      split at hw
      · rw [List.mem_singleton.1 hw]
        exact line_app (by unfold line'; decide +kernel) (line_tail (line_decL ok.ema))
      · cases hw
  · unfold swaP at hw
    split at hw
    · rename_i hc
      rw [List.mem_singleton.1 hw]
      refine line_app (by unfold line'; decide +kernel) (line_tail fun w hw => ?_)
      rcases List.mem_cons.1 hw with rfl | hw
      · exact line_tell ok.cnt
      · exact line_decL (mean_word ok hc.2) w hw
    · cases hw
structure Lines (l : List OutT) (s : StateT) : Prop where
  tell : ∀ o ∈ l, TellOk o
  small : ∀ o ∈ l, o.2.2.2.1.length ≤ 30 ∧ o.2.2.2.2.1.length ≤ 30
  n : l.length ≤ 6
  st : StateOk s
theorem Lines.out {l : List OutT} {s : StateT} (h : Lines l s) : ∀ o ∈ l, OutOk o := fun o ho => by
  have h1 := h.tell o ho
  have h2 := h.small o ho
  have h3 := h1.len
  exact ⟨⟨by have := h1.step; omega, by have := h1.step; omega⟩, ⟨by have := h1.phase; omega, by have := h1.phase; omega⟩, h1.vals, by omega, by omega, by omega, fun e he => by
    have := (h1.evs e he).2.2
    exact ⟨by omega, by omega⟩⟩
theorem step_len {o : OutT} (ok : TellOk o) (h : o.2.2.2.1.length ≤ 30 ∧ o.2.2.2.2.1.length ≤ 30) : (stepL o).length ≤ 61 := by
  have h3 := ok.len
  unfold stepL
  simp only [List.length_append, List.length_map, List.length_range', List.length_cons, List.length_nil, List.length_drop]
  omega
theorem state_len {s : StateT} (ok : StateOk s) : (stateL s).length ≤ 33 := by
  have hk := ok.nk
  unfold stateL emaP swaP
  simp only [List.length_append, List.length_map, List.length_cons, List.length_nil, List.length_drop]
  split <;> split <;> simp only [List.length_cons, List.length_nil] <;> omega
theorem allO_len {l : List OutT} (h : ∀ o ∈ l, TellOk o) (k : ∀ o ∈ l, o.2.2.2.1.length ≤ 30 ∧ o.2.2.2.2.1.length ≤ 30) : (allO l).length ≤ 61 * l.length := by
  induction l with
  | nil => exact Nat.le_refl _
  | cons o r ih =>
    have h1 := step_len (h o List.mem_cons_self) (k o List.mem_cons_self)
    have h2 := ih (fun x hx => h x (List.mem_cons_of_mem _ hx)) (fun x hx => k x (List.mem_cons_of_mem _ hx))
    have e : allO (o :: r) = stepL o ++ allO r := rfl
    rw [e, List.length_append, List.length_cons]
    omega
theorem Lines.lines {l : List OutT} {s : StateT} (h : Lines l s) : (∀ w ∈ allO l ++ stateL s, w.size ≤ 10000) ∧ (allO l ++ stateL s).length ≤ 399 ∧ (∀ w ∈ allO l ++ stateL s, line' w) := by
  have h1 := text_small h.out h.n h.st
  have h2 := allO_len h.tell h.small
  have h3 := state_len h.st
  have h4 := h.n
  refine ⟨h1.1, ?_, fun w hw => ?_⟩
  · rw [List.length_append]
    omega
  · rcases List.mem_append.1 hw with q | q
    · obtain ⟨L, hL, hw⟩ := List.mem_flatten.1 q
      obtain ⟨o, ho, rfl⟩ := List.mem_map.1 hL
      exact line_step (h.out o ho) w hw
    · exact line_state h.st w q
theorem head_flush (l : List OutT) (s : StateT) : ∃ w r, allO l ++ stateL s = w :: r ∧ flush w := by
  cases l with
  | nil => exact ⟨headT s, _, rfl, flush_state s⟩
  | cons o r => exact ⟨headS o, _, rfl, flush_head o⟩
theorem all_back (s : StateT) (r : List OutT) : ∀ (pre : List OutT), Lines (pre ++ r) s → Ev (fun k => trace_All.l3 k (allO (pre ++ r) ++ stateL s) pre ((allO pre).length : Int)) (pre ++ r, ((allO (pre ++ r)).length : Int), ()) := by
  induction r with
  | nil =>
    intro pre h
    obtain ⟨h1, h2, h3⟩ := h.lines
    rw [List.append_nil] at h h1 h2 h3 ⊢
    have hd : (allO pre ++ stateL s).drop (allO pre).length = stateL s := by rw [List.drop_left]
    have hone := one_ok (stateL s) (fun w hw => Nat.le_trans (h1 w (List.mem_append_right _ hw)) (by decide)) (by rw [List.length_append] at h2; omega)
    have hz : oneP (stateL s) = (zeroO, 0) := one_state h.st.step _
    rw [hz] at hone
    refine Ev.step (fun k => by rw [trace_All.l3]) ?_
    refine evp (by omega) ?_
    refine evp (by rw [List.length_append]; omega) ?_
    rw [show (((allO pre).length : Nat) : Int).toNat = (allO pre).length from rfl, hd]
    refine Ev.bind hone ?_
    refine evp rfl ?_
    exact Ev.now _
  | cons o r ih =>
    intro pre h
    obtain ⟨h1, h2, h3⟩ := h.lines
    have e0 : allO (pre ++ o :: r) = allO pre ++ (stepL o ++ allO r) := by
      unfold allO
      rw [List.map_append, List.flatten_append]
      rfl
    have e1 : allO (pre ++ [o]) = allO pre ++ stepL o := by
      unfold allO
      rw [List.map_append, List.flatten_append]
      show _ ++ (stepL o ++ []) = _
      rw [List.append_nil]
    have hd : (allO (pre ++ o :: r) ++ stateL s).drop (allO pre).length = stepL o ++ (allO r ++ stateL s) := by
      rw [e0, List.append_assoc, List.drop_left, List.append_assoc]
    have hm : ∀ w ∈ stepL o ++ (allO r ++ stateL s), w ∈ allO (pre ++ o :: r) ++ stateL s := fun w hw => by
      rw [e0, List.append_assoc, List.append_assoc]
      exact List.mem_append_right _ hw
    have hone := one_ok (stepL o ++ (allO r ++ stateL s)) (fun w hw => Nat.le_trans (h1 w (hm w hw)) (by decide)) (by rw [e0] at h2; simp only [List.length_append] at h2 ⊢; omega)
    have hb := one_back (o := o) (h.tell o (List.mem_append_right _ List.mem_cons_self)) (rest := allO r ++ stateL s) (fun w hw => by
      obtain ⟨x, t, e, hf⟩ := head_flush r s
      rw [e] at hw
      rw [← (Option.mem_some.1 hw)]
      exact hf)
    rw [hb] at hone
    have hpos : 0 < (stepL o).length := by unfold stepL; simp only [List.length_append, List.length_cons]; omega
    have hlen : (allO (pre ++ o :: r)).length = (allO pre).length + ((stepL o).length + (allO r).length) := by rw [e0, List.length_append, List.length_append]
    have hn := h.n
    have h2' : (allO (pre ++ o :: r)).length ≤ 399 := by rw [List.length_append] at h2; omega
    have := ih (pre ++ [o]) (by rw [List.append_assoc]; exact h)
    rw [List.append_assoc, e1] at this
    refine Ev.step (fun k => by rw [trace_All.l3]) ?_
    refine evp (by omega) ?_
    refine evp (by rw [List.length_append]; omega) ?_
    rw [show (((allO pre).length : Nat) : Int).toNat = (allO pre).length from rfl, hd]
    refine Ev.bind hone ?_
    refine evn (by show ¬ ((stepL o).length : Int) = 0; omega) ?_
    refine evp (by rw [List.length_append] at hn; simp only [List.length_cons, List.length_nil] at hn ⊢; omega) ?_
    rw [List.length_append, Int.natCast_add] at this
    show Ev (fun k => trace_All.l3 k (allO (pre ++ o :: r) ++ stateL s) (pre ++ [o]) (wrap64 (((allO pre).length : Int) + ((stepL o).length : Int)))) _
    rw [w64_add (by omega) (by omega)]
    exact this
theorem jn_last (L : List ByteArray) (h : L ≠ []) : ∃ b : ByteArray, numsOf b = jn 10 (L.map numsOf) ∧ (⟨(endL L).toArray⟩ : ByteArray) = b ++ (⟨#[10]⟩ : ByteArray) := by
  induction L with
  | nil => exact absurd rfl h
  | cons w r ih =>
    by_cases c : r = []
    · subst c
      refine ⟨w, rfl, nums_inj ?_⟩
      rw [nums_app]
      unfold numsOf
      simp [endL]
    · obtain ⟨b, h1, h2⟩ := ih c
      refine ⟨w ++ (⟨#[10]⟩ : ByteArray) ++ b, ?_, nums_inj ?_⟩
      · rw [List.map_cons, jn_cons _ _ (by simp [c]), nums_app, nums_app, h1, List.append_assoc]
        rfl
      · have := congrArg numsOf h2
        rw [nums_app] at this
        rw [nums_app, nums_app, nums_app]
        rw [List.append_assoc, ← this]
        unfold numsOf
        simp [endL]
theorem text_back {l : List OutT} {s : StateT} (h : Lines l s) : Ev (fun k => trace_Text.f k (textV l s)) (l, stateL s, 0, ()) := by
  obtain ⟨h1, h2, h3⟩ := h.lines
  have hz := (text_small h.out h.n h.st).2.2
  have hne : allO l ++ stateL s ≠ [] := by
    obtain ⟨w, r, e, _⟩ := head_flush l s
    rw [e]
    exact fun q => by cases q
  obtain ⟨b, hb, ht⟩ := jn_last _ hne
  have ht' : textV l s = b ++ (⟨#[10]⟩ : ByteArray) := ht
  have hsz : (textV l s).size ≤ 70007000 := hz
  have hbs : b.size ≤ 70007000 := by
    rw [ht', size_app] at hsz
    omega
  have hp : partsB 10 b = allO l ++ stateL s := by
    unfold partsB
    rw [hb, show (((10 : UInt8).toNat : Nat) : Int) = 10 from rfl, jn_pcs (fun q => hne (List.map_eq_nil_iff.1 q)) (fun w hw => by
      obtain ⟨x, hx, rfl⟩ := List.mem_map.1 hw
      exact h3 x hx), List.map_map, show strOfNums ∘ numsOf = id from funext str_nums, List.map_id]
  have hall : Ev (fun k => trace_All.f k (allO l ++ stateL s)) (l, ((allO l).length : Int), ()) := all_back s l [] h
  unfold trace_Text.f
  rw [ht']
  refine evn (fun q => ?_) ?_
  · rw [nil_toList] at q
    have := (toList_nil _).1 q
    rw [nums_app] at this
    exact absurd (List.append_eq_nil_iff.1 this).2 (by decide +kernel)
  refine evs (cuts_ok _ _ (by rw [size_app]; exact Nat.lt_of_le_of_lt (Nat.add_le_add_right hbs _) (by decide)) (by decide)) ?_
  rw [before_app]
  refine evn (by simp) ?_
  refine Ev.bind (g := fun k => strings_Split.f k b ⟨#[10]⟩) (a := partsB 10 b) ⟨0, fun k _ => split_ok k b (by omega) 10⟩ ?_
  rw [hp]
  refine Ev.bind hall ?_
  refine evp (by show (0 : Int) ≤ ((allO l).length : Int); omega) ?_
  refine evp (by show ((allO l).length : Int) ≤ _; rw [List.length_append]; omega) ?_
  show Ev (fun _ => some (l, (allO l ++ stateL s).drop (allO l).length, (0 : Int), ())) _
  rw [List.drop_left]
  exact Ev.now _
end Go.Proofs.YtcgdhpnobgimfaaGreatDoor.Num
end
section
namespace Go.Proofs.YtcgdhpnobgimfaaGreatDoor.Num
open Go.RowKit Go.Proofs.YtcgdhpnobgimfaaGreatDoor.PB Go.Proofs.YtcgdhpnobgimfaaGreatDoorW.PrintWords Go.Proofs.YtcgdhpnobgimfaaGreatDoorW.PrintMore

section
variable (L : List ByteArray) (hL : ∀ w ∈ L, w.size ≤ 200) (hn : L.length ≤ 90) (b2 : OutT)
include hL hn
end
end Go.Proofs.YtcgdhpnobgimfaaGreatDoor.Num
end
section
namespace Go.Proofs.YtcgdhpnobgimfaaGreatDoor.Num
open Go.RowKit Go.Proofs.YtcgdhpnobgimfaaGreatDoor.PB Go.Proofs.YtcgdhpnobgimfaaGreatDoorW.PrintWords Go.Proofs.YtcgdhpnobgimfaaGreatDoorW.PrintMore

structure RInv (o : OutT) (d : Nat) : Prop where
  step : word' o.1
  phase : word' o.2.1
  vals : ∀ x ∈ o.2.2.1, word' x
  len : o.2.2.1.length = 3 * o.2.2.2.1.length
  room : o.2.2.2.1.length + d ≤ 100
  evs : o.2.2.2.2.1 = []
def addG (o : OutT) (l : List Int) (b : Bool) : OutT := (o.1, o.2.1, o.2.2.1 ++ l, o.2.2.2.1 ++ [b], o.2.2.2.2)
theorem RInv.add {o : OutT} {d : Nat} (h : RInv o (d + 1)) {l : List Int} (b : Bool) (h3 : l.length = 3) (hl : ∀ x ∈ l, word' x) : RInv (addG o l b) d := by
  have h1 := h.len
  have h2 := h.room
  refine ⟨h.step, h.phase, fun x hx => ?_, ?_, ?_, h.evs⟩
  · rcases List.mem_append.1 hx with q | q
    · exact h.vals x q
    · exact hl x q
  · show (o.2.2.1 ++ l).length = 3 * (o.2.2.2.1 ++ [b]).length
    simp only [List.length_append, List.length_cons, List.length_nil]
    omega
  · show (o.2.2.2.1 ++ [b]).length + d ≤ 100
    simp only [List.length_append, List.length_cons, List.length_nil]
    omega
theorem RInv.out {o : OutT} {d : Nat} (h : RInv o d) : OutOk o := by
  have h1 := h.len
  have h2 := h.room
  have h3 := h.evs
  exact ⟨h.step, h.phase, h.vals, by omega, by omega, by rw [h3]; exact Nat.zero_le _, fun e he => by rw [h3] at he; cases he⟩
section
variable (L : List ByteArray) (hL : ∀ w ∈ L, w.size ≤ 200) (hn : L.length ≤ 90) (b2 : OutT)
include hL hn
end
end Go.Proofs.YtcgdhpnobgimfaaGreatDoor.Num
end
section
namespace Go.Proofs.YtcgdhpnobgimfaaGreatDoor.Num
open Go.RowKit Go.Proofs.YtcgdhpnobgimfaaGreatDoor.PB Go.Proofs.YtcgdhpnobgimfaaGreatDoorW.PrintWords Go.Proofs.YtcgdhpnobgimfaaGreatDoorW.PrintMore

def Small (o : OutT) : Prop := o.2.2.1.length ≤ 1000 ∧ o.2.2.2.1.length ≤ 1000 ∧ o.2.2.2.2.1.length ≤ 1000
theorem same27_l4 (l : List EvT) (hl : l.length ≤ 1000000) (d : Nat) : ∀ i : Nat, i + d = l.length → Ev (fun k => regimenref27_Same_s.l4 k l l (i : Int)) true := by
  induction d with
  | zero =>
    intro i h
    refine Ev.step (fun k => by rw [regimenref27_Same_s.l4]) ?_
    refine evn (by omega) ?_
    exact Ev.now _
  | succ d ih =>
    intro i h
    refine Ev.step (fun k => by rw [regimenref27_Same_s.l4]) ?_
    refine evp (by omega) ?_
    refine evp (by omega) ?_
    refine evp (by omega) ?_
    refine evp (by omega) ?_
    refine evp (by omega) ?_
    refine evn (by simp) ?_
    rw [w64_succ (by omega)]
    exact ih (i + 1) (by omega)
theorem same27_ok (l : List EvT) (hl : l.length ≤ 1000000) : Ev (fun k => regimenref27_Same_s.f k l l) true := by
  unfold regimenref27_Same_s.f
  refine evp rfl ?_
  exact same27_l4 l hl l.length 0 (Nat.zero_add _)
theorem same38_l4 (o : OutT) (ho : Small o) (d : Nat) : ∀ i : Nat, i + d = o.2.2.2.1.length → Ev (fun k => regimenref38_Same_s.l4 k (i : Int) o o) true := by
  obtain ⟨h1, h2, h3⟩ := ho
  induction d with
  | zero =>
    intro i h
    refine Ev.step (fun k => by rw [regimenref38_Same_s.l4]) ?_
    refine evn (by omega) ?_
    refine Ev.bind (same1_ok _ (by omega)) ?_
    refine evp rfl ?_
    exact Ev.bind (same27_ok _ (by omega)) (Ev.now _)
  | succ d ih =>
    intro i h
    refine Ev.step (fun k => by rw [regimenref38_Same_s.l4]) ?_
    refine evp (by omega) ?_
    refine evp (by omega) ?_
    refine evp (by omega) ?_
    refine evp (by omega) ?_
    refine evp (by omega) ?_
    refine evp rfl ?_
    rw [w64_succ (by omega)]
    exact ih (i + 1) (by omega)
theorem same38_ok (o : OutT) (ho : Small o) : Ev (fun k => regimenref38_Same_s.f k o o) true := by
  unfold regimenref38_Same_s.f
  refine evp rfl ?_
  refine evp rfl ?_
  refine evp rfl ?_
  refine evp rfl ?_
  exact same38_l4 o ho o.2.2.2.1.length 0 (Nat.zero_add _)
theorem same39_l4 (l : List OutT) (hl : l.length ≤ 1000000) (hs : ∀ o ∈ l, Small o) (d : Nat) : ∀ i : Nat, i + d = l.length → Ev (fun k => regimenref39_Same_s.l4 k l l (i : Int)) true := by
  induction d with
  | zero =>
    intro i h
    refine Ev.step (fun k => by rw [regimenref39_Same_s.l4]) ?_
    refine evn (by omega) ?_
    exact Ev.now _
  | succ d ih =>
    intro i h
    refine Ev.step (fun k => by rw [regimenref39_Same_s.l4]) ?_
    refine evp (by omega) ?_
    refine evp (by omega) ?_
    refine evp (by omega) ?_
    refine evp (by omega) ?_
    refine evp (by omega) ?_
    refine Ev.bind (same38_ok _ (hs _ (mem_getD zeroO (i := i) (by omega)))) ?_
    refine evn (by simp) ?_
    rw [w64_succ (by omega)]
    exact ih (i + 1) (by omega)
theorem same39_ok (l : List OutT) (hl : l.length ≤ 1000000) (hs : ∀ o ∈ l, Small o) : Ev (fun k => regimenref39_Same_s.f k l l) true := by
  unfold regimenref39_Same_s.f
  refine evp rfl ?_
  exact same39_l4 l hl hs l.length 0 (Nat.zero_add _)
end Go.Proofs.YtcgdhpnobgimfaaGreatDoor.Num
end
section
namespace Go.Proofs.YtcgdhpnobgimfaaGreatDoor.Num
open Go.RowKit Go.Proofs.YtcgdhpnobgimfaaGreatDoor.PB Go.Proofs.YtcgdhpnobgimfaaGreatDoorW.PrintWords Go.Proofs.YtcgdhpnobgimfaaGreatDoorW.PrintMore Go.Sym

theorem awakeB_ok : Ev (fun k => regimenlaw57_awake.f k) true := Ev.of (fun k => regimenlaw57_awake.mono k) (k := 300) (by decide +kernel)
theorem shortB_ok : ∃ r, Ev (fun k => trace_Text.f k (⟨#[115, 116, 101, 112]⟩ : ByteArray)) r ∧ r.2.2.1 = 2 := by
  refine ⟨([], [], 2, ()), ?_, rfl⟩
  have hb : beforeS (⟨#[10]⟩ : ByteArray) (⟨#[115, 116, 101, 112]⟩ : ByteArray) = none := by decide +kernel
  unfold trace_Text.f
  refine evn (by decide +kernel) ?_
  refine evs (cuts_ok _ _ (by decide) (by decide)) ?_
  rw [hb]
  exact evp rfl (Ev.now _)
def smallB (o : OutT) : Bool := decide (o.2.2.1.length ≤ 30) && (decide (o.2.2.2.1.length ≤ 30) && decide (o.2.2.2.2.1.length ≤ 30))
theorem le_iffB (n : Nat) : ((n : Int) ≤ 30) ↔ n ≤ 30 := by omega
theorem smallB_ok (o : OutT) : Ev (fun k => regimenlaw57_small_s.f k o) (smallB o) := by
  unfold regimenlaw57_small_s.f smallB
  simp only [le_iffB, Bool.false_xor]
  by_cases a : o.2.2.1.length ≤ 30
  · refine evp a ?_
    rw [decide_eq_true a, Bool.true_and]
    by_cases b : o.2.2.2.1.length ≤ 30
    · refine evp b ?_
      rw [decide_eq_true b, Bool.true_and]
      exact Ev.now _
    · refine evn b ?_
      rw [decide_eq_false b, Bool.false_and]
      exact Ev.now _
  · refine evn a ?_
    rw [decide_eq_false a, Bool.false_and]
    exact Ev.now _
def lightB (s : StateT) : Bool := decide ((kepts s).length ≤ 30) && (decide ((emas s).length ≤ 30) && decide ((sws s).length ≤ 30))
theorem lightB_ok (s : StateT) : Ev (fun k => regimenlaw37_Light_s.f k s) (lightB s) := by
  unfold regimenlaw37_Light_s.f lightB
  simp only [le_iffB, Bool.false_xor]
  by_cases a : (kepts s).length ≤ 30
  · refine evp a ?_
    rw [decide_eq_true a, Bool.true_and]
    by_cases b : (emas s).length ≤ 30
    · refine evp b ?_
      rw [decide_eq_true b, Bool.true_and]
      exact Ev.now _
    · refine evn b ?_
      rw [decide_eq_false b, Bool.false_and]
      exact Ev.now _
  · refine evn a ?_
    rw [decide_eq_false a, Bool.false_and]
    exact Ev.now _
abbrev outTB : Ty := .cons (.int .i64) (.cons (.int .i64) (.cons (.sl (.int .i64)) (.cons (.sl .bool) (.cons (.sl (.cons (.int .i64) (.cons (.int .i64) (.cons (.int .i64) .nil)))) (.cons (.int .i64) .nil)))))
abbrev stTB : Ty := .cons (.int .i64) (.cons (.int .i64) (.cons (.int .i64) (.cons (.cons .bool (.cons (.int .i64) (.cons (.int .i64) .nil))) (.cons (.cons (.cons .bool (.cons (.int .i64) (.cons (.int .i64) .nil))) (.cons (.int .i64) (.cons (.int .i64) .nil))) (.cons (.sl (.cons (.int .i64) (.cons (.int .i64) .nil))) (.cons (.sl (.int .i64)) (.cons (.cons (.int .i64) (.cons (.sl (.int .i64)) .nil)) .nil)))))))
theorem stB_wf {s : StateT} (w : Wf stTB s) (h : lightB s = true) : StateOk s := by
  unfold lightB at h
  simp only [Bool.and_eq_true, decide_eq_true_eq] at h
  obtain ⟨h1, h2, h3, h4, h5, h6, h7, h8, _⟩ := w
  exact ⟨i64_wf h1, fun k hk => i64_wf (h6.2 k hk).1, fun k hk => i64_wf (h6.2 k hk).2.1, h.1, fun x hx => i64_wf (h7.2 x hx), h.2.1, i64_wf h8.1, fun x hx => i64_wf (h8.2.1.2 x hx), h.2.2⟩
theorem smallB_out {o : OutT} (h : smallB o = true) : o.2.2.1.length ≤ 30 ∧ o.2.2.2.1.length ≤ 30 ∧ o.2.2.2.2.1.length ≤ 30 := by
  unfold smallB at h
  simp only [Bool.and_eq_true, decide_eq_true_eq] at h
  exact h
theorem end_back {l : List OutT} {s : StateT} (h : Lines l s) : Ev (fun k => (output_Text.f k l s).bind fun t10 => ((trace_Text.f k t10).bind fun t11 => ((trace_Text.f k (⟨#[115, 116, 101, 112]⟩ : ByteArray)).bind fun t12 => (if t11.2.2.1 = (0 : Int) then (if t12.2.2.1 = (2 : Int) then ((regimenref39_Same_s.f k t11.1 l).bind fun t13 => (if t13 = true then ((regimenref45_State_s.f k s).bind fun t14 => ((regimenref01_Texts.f k t11.2.1 t14).bind fun t15 => (if t15 = true then ((regimenlaw57_awake.f k).bind fun t16 => (some t16)) else (some false)))) else (some false))) else (some false)) else (some false))))) true := by
  have hs := h.small
  have hn := h.n
  refine Ev.bind (ttext_ok h.out hn h.st) ?_
  refine Ev.bind (text_back h) ?_
  obtain ⟨r, h1, h2⟩ := shortB_ok
  refine Ev.bind h1 ?_
  refine evp rfl ?_
  refine evp h2 ?_
  refine Ev.bind (same39_ok l (by omega) fun o ho => by
    have h3 := (h.tell o ho).len
    have h4 := hs o ho
    exact ⟨by omega, by omega, by omega⟩) ?_
  refine evp rfl ?_
  refine Ev.bind (rstate_ok h.st) ?_
  have := state_len h.st
  refine Ev.bind (texts_ok (stateL s) (by omega)) ?_
  refine evp rfl ?_
  exact Ev.bind awakeB_ok (Ev.now _)
open Classical in
theorem back_l5 (l : List OutT) (s : StateT) (hw : ∀ o ∈ l, Wf outTB o) (hn : l.length ≤ 6) (so : StateOk s) (d : Nat) : ∀ (i : Nat) (b : Bool), i + d = l.length → (b = true → ∀ o ∈ l.take i, TellOk o ∧ o.2.2.2.1.length ≤ 30 ∧ o.2.2.2.2.1.length ≤ 30) → Ev (fun k => regimenlaw57_TraceBack.l5 k l b (i : Int) s) true := by
  induction d with
  | zero =>
    intro i b hi ho
    rw [List.take_of_length_le (by omega)] at ho
    refine Ev.step (fun k => by rw [regimenlaw57_TraceBack.l5]) ?_
    refine evn (by omega) ?_
    cases b with
    | false =>
      refine evp rfl ?_
      exact Ev.bind awakeB_ok (Ev.now _)
    | true =>
      refine evn (by decide) ?_
      exact end_back ⟨fun o h => (ho rfl o h).1, fun o h => (ho rfl o h).2, hn, so⟩
  | succ d ih =>
    intro i b hi ho
    have hlt : i < l.length := by omega
    have hg : l.getD i (0, 0, ([] : List Int), ([] : List Bool), ([] : List (Int × Int × Int × Unit)), 0, ()) = l[i] := by rw [List.getD_eq_getElem?_getD, List.getElem?_eq_getElem hlt]; rfl
    refine Ev.step (fun k => by rw [regimenlaw57_TraceBack.l5]) ?_
    refine evp (by omega) ?_
    refine evp (by omega) ?_
    refine evp (by omega) ?_
    rw [show ((i : Int)).toNat = i from rfl, hg]
    refine Ev.bind (smallB_ok l[i]) ?_
    rcases Bool.eq_false_or_eq_true (smallB l[i]) with a | a
    · refine evn (by rw [a]; decide) ?_
      obtain ⟨a1, a2, a3⟩ := smallB_out a
      obtain ⟨_, _, w3, _⟩ := hw _ (List.getElem_mem hlt)
      have hv : ∀ x ∈ l[i].2.2.1, word' x := fun x hx => i64_wf (w3.2 x hx)
      have hm := may_ok l[i] hv (by omega) (by omega) (by omega)
      have hc := check_all l[i] hv (by omega) (by omega)
      refine evp (by omega) ?_
      refine evp (by omega) ?_
      refine Ev.bind hm ?_
      refine evp (by omega) ?_
      refine evp (by omega) ?_
      refine Ev.bind hc ?_
      by_cases t : TellOk l[i]
      · rw [if_pos t] at hc ⊢
        rw [decide_eq_true t]
        refine evp (by decide) ?_
        refine evp (by omega) ?_
        refine evp (by omega) ?_
        refine Ev.bind hc ?_
        refine evn (by decide) ?_
        rw [w64_succ (by omega)]
        cases b with
        | false =>
          refine evn (by decide) ?_
          exact ih (i + 1) false (by omega) fun q => by cases q
        | true =>
          refine evp rfl ?_
          refine ih (i + 1) true (by omega) fun _ o hm => ?_
          rw [List.take_add_one, List.getElem?_eq_getElem hlt] at hm
          rcases List.mem_append.1 hm with q | q
          · exact ho rfl o q
          · rw [List.mem_singleton.1 (show o ∈ [l[i]] from q)]
            exact ⟨t, a2, a3⟩
      · rw [if_neg t] at hc ⊢
        rw [decide_eq_false t]
        refine evp (by decide) ?_
        refine evp (by omega) ?_
        refine evp (by omega) ?_
        refine Ev.bind hc ?_
        refine evn (by decide) ?_
        rw [w64_succ (by omega)]
        cases b with
        | false =>
          refine evn (by decide) ?_
          exact ih (i + 1) false (by omega) fun q => by cases q
        | true =>
          refine evp rfl ?_
          exact ih (i + 1) false (by omega) fun q => by cases q
    · refine evp (by rw [a]; rfl) ?_
      exact Ev.bind awakeB_ok (Ev.now _)
theorem traceback_ok (l : List OutT) (s : StateT) (hw : ∀ o ∈ l, Wf outTB o) (w1 : Wf stTB s) : Ev (fun k => regimenlaw57_TraceBack.f k l s) true := by
  unfold regimenlaw57_TraceBack.f
  by_cases c : l.length ≤ 6
  · refine evn (by omega) ?_
    refine Ev.bind (lightB_ok s) ?_
    rcases Bool.eq_false_or_eq_true (lightB s) with b | b
    · refine evn (by rw [b]; decide) ?_
      exact back_l5 l s hw c (stB_wf w1 b) l.length 0 true (Nat.zero_add _) (fun _ o ho => by cases ho)
    · refine evp (by rw [b]; rfl) ?_
      exact Ev.bind awakeB_ok (Ev.now _)
  · refine evp (by omega) ?_
    exact Ev.bind awakeB_ok (Ev.now _)
end Go.Proofs.YtcgdhpnobgimfaaGreatDoor.Num
namespace Go.Proofs.YtcgdhpnobgimfaaGreatDoor
open Go.Sym Go.Proofs.YtcgdhpnobgimfaaGreatDoor.Num Go.Proofs.YtcgdhpnobgimfaaGreatDoor.PB
theorem Pure.TraceBack (y0 : El (.sl outTB)) (w0 : Wf (.sl outTB) y0) (y1 : El stTB) (w1 : Wf stTB y1) : ∃ k, regimenlaw57_TraceBack.c.fn k (y0, (y1, ())) = some true := by
  obtain ⟨K, h⟩ := traceback_ok y0 y1 w0.2 w1
  exact ⟨K, h K (Nat.le_refl _)⟩
end Go.Proofs.YtcgdhpnobgimfaaGreatDoor
end
