/- The length that is next (layer 14), by value; the program's side and the document's. -/
import Derived.Test.YtnmmhfpekeeedaaPRx0
import Derived.Test.YtnmmhfpekeeedaaPRx11
import Derived.Test.YtnmmhfpekeeedaaPRx14
import Derived.Test.YtnmmhfpekeeedaaRCursor
namespace Go.Proofs.Ytnmmhfpekeeedaa.Num
set_option linter.unusedVariables false
set_option linter.unusedSimpArgs false
open Go.RowKit Go.Proofs.Ytnmmhfpekeeedaa.PR Go.Proofs.YtnmmhfpekeeedaaW.PrintWords Go.Proofs.YtnmmhfpekeeedaaW.PrintMore

abbrev wSteps : ByteArray := ⟨#[115, 116, 101, 112, 115]⟩
abbrev wEpochs : ByteArray := ⟨#[101, 112, 111, 99, 104, 115]⟩
abbrev wPct : ByteArray := ⟨#[37]⟩
abbrev wRest : ByteArray := ⟨#[114, 101, 115, 116]⟩
def unitR (L : List S34) (d : Cu) (n : Int) : Cu × Int × Int :=
  if takeB L d 1 wSteps = true then (takeC L d 1 wSteps, 0, n)
  else if takeB L d 1 wEpochs = true then (takeC L d 1 wEpochs, 1, n)
  else if takeB L d 4 wPct = true then (if n > 100 then (failC L d 3, 0, 0) else (takeC L d 4 wPct, 2, n))
  else (failC L d 2, 0, 0)
/-- The length that is next: where the cursor is then; its unit, its number. -/
def readC (L : List S34) (c : Cu) : Cu × Int × Int :=
  if takeB L c 1 wRest = true then (takeC L c 1 wRest, 3, 0)
  else unitR L (numC L c (getv (numsOf (peekC L c).2.1)).1 (getv (numsOf (peekC L c).2.1)).2 0 1099511627776).1 (numC L c (getv (numsOf (peekC L c).2.1)).1 (getv (numsOf (peekC L c).2.1)).2 0 1099511627776).2
theorem unitR_le {L : List S34} {d : Cu} (h : d.I ≤ L.length) (n : Int) : (unitR L d n).1.I ≤ L.length := by
  unfold unitR
  repeat' split
  all_goals first | exact takeC_le _ _ h | (show (failC L d _).I ≤ _; rw [failC_I]; exact h)
theorem unitR_ok {L : List S34} {d : Cu} (h : okC d) (n : Int) : okC (unitR L d n).1 := by
  unfold unitR
  repeat' split
  all_goals first | exact okC_take _ _ h | exact okC_fail _ h
theorem readC_le {L : List S34} {c : Cu} (h : c.I ≤ L.length) : (readC L c).1.I ≤ L.length := by
  unfold readC
  split
  · exact takeC_le _ _ h
  · exact unitR_le (numC_le h _ _ _ _) _
theorem readC_ok {L : List S34} {c : Cu} (h : okC c) : okC (readC L c).1 := by
  unfold readC
  split
  · exact okC_take _ _ h
  · exact unitR_ok (okC_num h _ _ _ _) _
/-! ### The program's -/
def unitA (L : List S34) (d : Cu) (n : Int) : Cu := if takeB L d 4 wPct = true ∧ n > 100 then failC L d 3 else d
def unitB (L : List S34) (c : Cu) : Int × Cu :=
  if takeB L c 1 wSteps = true then (0, takeC L c 1 wSteps) else if takeB L c 1 wEpochs = true then (1, takeC L c 1 wEpochs) else (2, if takeB L c 4 wPct = true then takeC L c 4 wPct else failC L c 2)
theorem takeB_iff (L : List S34) (c : Cu) (kind : Int) (text : ByteArray) : takeB L c kind text = true ↔ (c.b = 0 ∧ (peekC L c).1 = kind ∧ (peekC L c).2.1.toList = text.toList) := by unfold takeB; rw [decide_eq_true_iff]
theorem takeC_f {L : List S34} {c : Cu} {kind : Int} {text : ByteArray} (h : ¬ takeB L c kind text = true) : takeC L c kind text = c := if_neg h
theorem takeC_b (L : List S34) (c : Cu) (kind : Int) (text : ByteArray) : (takeC L c kind text).b = c.b := by
  unfold takeC
  split
  · exact onC_b L c
  · rfl
theorem unit_j1 (L : List S34) (c : Cu) (h : c.I ≤ L.length) : Ev (fun k => length_unit.j1 k true (L.drop c.I) (lastP L c.I).1 (lastP L c.I).2 c.p c.q c.b) ((unitB L c).1, stC L (unitB L c).2) := by
  refine Ev.step (fun k => by rw [length_unit.j1]) ?_
  refine evs (cur_take L c h 1 wSteps) ?_
  by_cases t : takeB L c 1 wSteps = true
  · have E : unitB L c = (0, takeC L c 1 wSteps) := if_pos t
    rw [E]
    exact evp t (Ev.now _)
  · refine evn t ?_
    rw [takeC_f t]
    refine evs (cur_take L c h 1 wEpochs) ?_
    by_cases u : takeB L c 1 wEpochs = true
    · have E : unitB L c = (1, takeC L c 1 wEpochs) := (if_neg t).trans (if_pos u)
      rw [E]
      exact evp u (Ev.now _)
    · have E : unitB L c = (2, if takeB L c 4 wPct = true then takeC L c 4 wPct else failC L c 2) := (if_neg t).trans (if_neg u)
      rw [E]
      refine evn u ?_
      rw [takeC_f u]
      exact evs (cur_want L c h 4 wPct) (Ev.now _)
theorem unit_ok14 (L : List S34) (c : Cu) (h : c.I ≤ L.length) (n : Int) : Ev (fun k => length_unit.f k true (L.drop c.I) (lastP L c.I).1 (lastP L c.I).2 c.p c.q c.b n) ((unitB L (unitA L c n)).1, stC L (unitB L (unitA L c n)).2) := by
  have j0 : ∀ d : Bool, (d = true ↔ (takeB L c 4 wPct = true ∧ n > 100)) → Ev (fun k => length_unit.j0 k d true (L.drop c.I) (lastP L c.I).1 (lastP L c.I).2 c.p c.q c.b) ((unitB L (unitA L c n)).1, stC L (unitB L (unitA L c n)).2) := by
    intro d hd
    unfold unitA
    refine Ev.step (fun k => by rw [length_unit.j0]) ?_
    by_cases z : takeB L c 4 wPct = true ∧ n > 100
    · rw [if_pos z]
      refine evp (hd.2 z) ?_
      refine evs (cur_fail L c h 3 (.inl (by decide))) ?_
      exact unit_j1 L (failC L c 3) (by rw [failC_I]; exact h)
    · rw [if_neg z]
      exact evn (fun y => z (hd.1 y)) (unit_j1 L c h)
  have kb : (peekC L c).1 = 4 → c.b = 0 := by
    intro z
    unfold peekC at z
    by_cases y : c.b = 0
    · exact y
    · rw [if_neg y] at z
      exact absurd z (by decide)
  have hw : wPct.toList = ([37] : List UInt8) := by decide +kernel
  unfold length_unit.f
  refine evs (cur_peek L c h) ?_
  by_cases k4 : (peekC L c).1 = 4
  · refine evp k4 ?_
    by_cases t : (peekC L c).2.1.toList = wPct.toList
    · refine evp (t.trans hw) (j0 _ ?_)
      rw [decide_eq_true_iff, takeB_iff]
      exact ⟨fun z => ⟨⟨kb k4, k4, t⟩, z⟩, fun z => z.2⟩
    · refine evn (fun z => t (z.trans hw.symm)) (j0 _ ?_)
      rw [takeB_iff]
      exact ⟨fun z => absurd z (by decide), fun z => absurd z.1.2.2 t⟩
  · refine evn k4 (j0 _ ?_)
    rw [takeB_iff]
    exact ⟨fun z => absurd z (by decide), fun z => absurd z.1.2.1 k4⟩
theorem unit_eq (L : List S34) (d : Cu) (n : Int) : (unitB L (unitA L d n)).2 = (unitR L d n).1 ∧ (if (unitB L (unitA L d n)).2.b = 0 then ((unitB L (unitA L d n)).1, n) else (0, 0)) = (unitR L d n).2 := by
  by_cases hb : d.b = 0
  · by_cases s1 : takeB L d 1 wSteps = true
    · have k1 := ((takeB_iff _ _ _ _).1 s1).2.1
      have np : ¬ (takeB L d 4 wPct = true ∧ n > 100) := fun z => by have := ((takeB_iff _ _ _ _).1 z.1).2.1; omega
      have eA : unitA L d n = d := if_neg np
      have eB : unitB L d = (0, takeC L d 1 wSteps) := if_pos s1
      have eR : unitR L d n = (takeC L d 1 wSteps, 0, n) := if_pos s1
      rw [eA, eB, eR]
      exact ⟨rfl, if_pos ((takeC_b L d _ _).trans hb)⟩
    · by_cases s2 : takeB L d 1 wEpochs = true
      · have k1 := ((takeB_iff _ _ _ _).1 s2).2.1
        have np : ¬ (takeB L d 4 wPct = true ∧ n > 100) := fun z => by have := ((takeB_iff _ _ _ _).1 z.1).2.1; omega
        have eA : unitA L d n = d := if_neg np
        have eB : unitB L d = (1, takeC L d 1 wEpochs) := (if_neg s1).trans (if_pos s2)
        have eR : unitR L d n = (takeC L d 1 wEpochs, 1, n) := (if_neg s1).trans (if_pos s2)
        rw [eA, eB, eR]
        exact ⟨rfl, if_pos ((takeC_b L d _ _).trans hb)⟩
      · by_cases s3 : takeB L d 4 wPct = true
        · by_cases hn : n > 100
          · have eA : unitA L d n = failC L d 3 := if_pos ⟨s3, hn⟩
            have fb : (failC L d 3).b = 3 := by unfold failC; rw [if_pos ⟨hb, by decide⟩]
            have nb : (failC L d 3).b ≠ 0 := by rw [fb]; decide
            have eB : unitB L (failC L d 3) = (2, failC L d 3) := by
              unfold unitB
              rw [takeB_b 1 wSteps nb, takeB_b 1 wEpochs nb, takeB_b 4 wPct nb, if_neg (by decide), if_neg (by decide), if_neg (by decide), failC_b L _ 2 nb]
            have eR : unitR L d n = (failC L d 3, 0, 0) := (if_neg s1).trans ((if_neg s2).trans ((if_pos s3).trans (if_pos hn)))
            rw [eA, eB, eR]
            exact ⟨rfl, if_neg nb⟩
          · have eA : unitA L d n = d := if_neg (fun z => hn z.2)
            have eB : unitB L d = (2, takeC L d 4 wPct) := (if_neg s1).trans ((if_neg s2).trans (by rw [if_pos s3]))
            have eR : unitR L d n = (takeC L d 4 wPct, 2, n) := (if_neg s1).trans ((if_neg s2).trans ((if_pos s3).trans (if_neg hn)))
            rw [eA, eB, eR]
            exact ⟨rfl, if_pos ((takeC_b L d _ _).trans hb)⟩
        · have eA : unitA L d n = d := if_neg (fun z => s3 z.1)
          have eB : unitB L d = (2, failC L d 2) := (if_neg s1).trans ((if_neg s2).trans (by rw [if_neg s3]))
          have eR : unitR L d n = (failC L d 2, 0, 0) := (if_neg s1).trans ((if_neg s2).trans (if_neg s3))
          have fb : (failC L d 2).b = 2 := by unfold failC; rw [if_pos ⟨hb, by decide⟩]
          rw [eA, eB, eR]
          exact ⟨rfl, if_neg (by rw [fb]; decide)⟩
  · have t1 : ∀ kind text, ¬ takeB L d kind text = true := fun kind text z => hb ((takeB_iff _ _ _ _).1 z).1
    have eA : unitA L d n = d := if_neg (fun z => t1 _ _ z.1)
    have eB : unitB L d = (2, failC L d 2) := (if_neg (t1 _ _)).trans ((if_neg (t1 _ _)).trans (by rw [if_neg (t1 _ _)]))
    have eR : unitR L d n = (failC L d 2, 0, 0) := (if_neg (t1 _ _)).trans ((if_neg (t1 _ _)).trans (if_neg (t1 _ _)))
    rw [eA, eB, eR]
    exact ⟨rfl, if_neg (by rw [failC_b L d 2 hb]; exact hb)⟩
theorem read_ok14 (L : List S34) (c : Cu) (h : c.I ≤ L.length) (hs : (peekC L c).2.1.size < 1000000) : Ev (fun k => length_Read.f k true (L.drop c.I) (lastP L c.I).1 (lastP L c.I).2 c.p c.q c.b) ((readC L c).2.1, (readC L c).2.2, stC L (readC L c).1) := by
  unfold length_Read.f readC
  refine evs (cur_take L c h 1 wRest) ?_
  by_cases t : takeB L c 1 wRest = true
  · rw [if_pos t]
    exact evp t (Ev.now _)
  · rw [if_neg t]
    refine evn t ?_
    rw [takeC_f t]
    refine Ev.bind (cur_count L c h hs 0 1099511627776) ?_
    generalize getv (numsOf (peekC L c).2.1) = G
    have le := numC_le h G.1 G.2 0 1099511627776
    generalize numC L c G.1 G.2 0 1099511627776 = D at *
    refine Ev.bind (unit_ok14 L D.1 le D.2) ?_
    obtain ⟨q1, q2⟩ := unit_eq L D.1 D.2
    rw [← q2, ← q1]
    generalize unitB L (unitA L D.1 D.2) = U
    refine evs (cur_fault L U.2) ?_
    by_cases z : U.2.b = 0
    · have E : (if U.2.b = 0 then (U.1, D.2) else (0, 0)) = (U.1, D.2) := if_pos z
      rw [E]
      exact evp z (Ev.now _)
    · have E : (if U.2.b = 0 then (U.1, D.2) else (0, 0)) = (0, 0) := if_neg z
      rw [E]
      exact evn z (Ev.now _)
/-! ### The document's -/
theorem ref_read14 (L : List S34) (hL : L.length < 1000000) (c : Cu) (h : c.I ≤ L.length) (hs : (peekC L c).2.1.size < 1000000) : Ev (fun k => regimenref14_Read.f k L (c.I : Int) c.p c.q c.b)
    ((rtC L (readC L c).1).1, (rtC L (readC L c).1).2.1, (rtC L (readC L c).1).2.2.1, (rtC L (readC L c).1).2.2.2.1, (rtC L (readC L c).1).2.2.2.2, (readC L c).2.1, (readC L c).2.2) := by
  have loop : ∀ (d : Cu) (n : Int), d.I ≤ L.length → Ev (fun k => regimenref14_Read.l0 k n [wSteps, wEpochs, wPct] 0 L (d.I : Int) d.p d.q d.b) ((rtC L (unitR L d n).1).1, (rtC L (unitR L d n).1).2.1, (rtC L (unitR L d n).1).2.2.1, (rtC L (unitR L d n).1).2.2.2.1, (rtC L (unitR L d n).1).2.2.2.2, (unitR L d n).2.1, (unitR L d n).2.2) := by
    intro d n hd
    have e1 : wrap64 ((0 : Int) + 1) = 1 := by decide +kernel
    have e2 : wrap64 ((1 : Int) + 1) = 2 := by decide +kernel
    have e3 : wrap64 ((2 : Int) + 1) = 3 := by decide +kernel
    unfold unitR
    refine Ev.step (fun k => by rw [regimenref14_Read.l0]) ?_
    refine evp (by decide) ?_
    refine evn (by decide) ?_
    refine Ev.step (fun k => by rw [regimenref14_Read.j1]) ?_
    refine evp (by decide) ?_
    refine evp (by decide) ?_
    refine evs (ref_take13 L hL d hd 1 wSteps) ?_
    by_cases s1 : takeB L d 1 wSteps = true
    · rw [if_pos s1]
      refine evp s1 ?_
      refine evn (by decide) ?_
      refine Ev.step (fun k => by rw [regimenref14_Read.j2]) ?_
      refine evn (by decide) ?_
      exact evp s1 (Ev.now _)
    rw [if_neg s1]
    refine evn s1 ?_
    refine Ev.step (fun k => by rw [regimenref14_Read.j2]) ?_
    refine evn (by decide) ?_
    refine evn s1 ?_
    rw [e1]
    refine Ev.step (fun k => by rw [regimenref14_Read.l0]) ?_
    refine evp (by decide) ?_
    refine evn (by decide) ?_
    refine Ev.step (fun k => by rw [regimenref14_Read.j1]) ?_
    refine evp (by decide) ?_
    refine evp (by decide) ?_
    refine evs (ref_take13 L hL d hd 1 wEpochs) ?_
    by_cases s2 : takeB L d 1 wEpochs = true
    · rw [if_pos s2]
      refine evp s2 ?_
      refine evn (by decide) ?_
      refine Ev.step (fun k => by rw [regimenref14_Read.j2]) ?_
      refine evn (by decide) ?_
      exact evp s2 (Ev.now _)
    rw [if_neg s2]
    refine evn s2 ?_
    refine Ev.step (fun k => by rw [regimenref14_Read.j2]) ?_
    refine evn (by decide) ?_
    refine evn s2 ?_
    rw [e2]
    refine Ev.step (fun k => by rw [regimenref14_Read.l0]) ?_
    refine evp (by decide) ?_
    refine evp (by decide) ?_
    refine Ev.step (fun k => by rw [regimenref14_Read.j1]) ?_
    refine evp (by decide) ?_
    refine evp (by decide) ?_
    refine evs (ref_take13 L hL d hd 4 wPct) ?_
    by_cases s3 : takeB L d 4 wPct = true
    · rw [if_pos s3]
      refine evp s3 ?_
      refine evp (by decide) ?_
      refine Ev.step (fun k => by rw [regimenref14_Read.j2]) ?_
      by_cases hn : n > 100
      · have e : (if n > 100 then ((failC L d 3, 0, 0) : Cu × Int × Int) else (takeC L d 4 wPct, 2, n)) = (failC L d 3, 0, 0) := if_pos hn
        rw [e]
        refine evp (decide_eq_true hn) ?_
        exact evs (ref_fail13 L hL d hd 3) (Ev.now _)
      · have e : (if n > 100 then ((failC L d 3, 0, 0) : Cu × Int × Int) else (takeC L d 4 wPct, 2, n)) = (takeC L d 4 wPct, 2, n) := if_neg hn
        rw [e]
        refine evn (by simpa using hn) ?_
        exact evp s3 (Ev.now _)
    rw [if_neg s3]
    refine evn s3 ?_
    refine Ev.step (fun k => by rw [regimenref14_Read.j2]) ?_
    refine evn (by decide) ?_
    refine evn s3 ?_
    rw [e3]
    refine Ev.step (fun k => by rw [regimenref14_Read.l0]) ?_
    refine evn (by decide) ?_
    exact evs (ref_fail13 L hL d hd 2) (Ev.now _)
  unfold regimenref14_Read.f readC
  refine evs (ref_take13 L hL c h 1 wRest) ?_
  by_cases t : takeB L c 1 wRest = true
  · rw [if_pos t]
    exact evp t (Ev.now _)
  · rw [if_neg t]
    refine evn t ?_
    refine Ev.bind (ref_count13 L hL c h hs 0 1099511627776) ?_
    exact loop _ _ (numC_le h _ _ _ _)
end Go.Proofs.Ytnmmhfpekeeedaa.Num
