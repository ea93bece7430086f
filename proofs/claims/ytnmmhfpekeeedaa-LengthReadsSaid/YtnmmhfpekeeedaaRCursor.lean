/- Cursors (layer 13): the next token, past it, faults, counts: by value; the program's side and the document's. -/
import Derived.Test.YtnmmhfpekeeedaaPRx0
import Derived.Test.YtnmmhfpekeeedaaPRx4
import Derived.Test.YtnmmhfpekeeedaaPRx9
import Derived.Test.YtnmmhfpekeeedaaPRx10
import Derived.Test.YtnmmhfpekeeedaaPRx12
import Derived.Test.YtnmmhfpekeeedaaPRx13
import Derived.Test.YtnmmhfpekeeedaaRNumRef
import Derived.Test.YtnmmhfpekeeedaaRCut
namespace Go.Proofs.Ytnmmhfpekeeedaa.Num
set_option linter.unusedVariables false
set_option linter.unusedSimpArgs false
open Go.RowKit Go.Proofs.Ytnmmhfpekeeedaa.PR Go.Proofs.YtnmmhfpekeeedaaW.PrintWords Go.Proofs.YtnmmhfpekeeedaaW.PrintMore

/-- How many tokens were passed; where the fault is; the fault. -/
structure Cu where
  I : Nat
  p : Int
  q : Int
  b : Int
def lastP (L : List S34) (I : Nat) : Int × Int := if I = 0 then (0, 0) else ((rd_T34 L ((I : Int) - 1)).f2.f0, (rd_T34 L ((I : Int) - 1)).f2.f1)
def peekC (L : List S34) (c : Cu) : Int × ByteArray × Int × Int :=
  if c.b = 0 then (if c.I < L.length then ((rd_T34 L (c.I : Int)).f0, (rd_T34 L (c.I : Int)).f1, (rd_T34 L (c.I : Int)).f2.f0, (rd_T34 L (c.I : Int)).f2.f1) else (0, ⟨#[]⟩, (lastP L c.I).1, (lastP L c.I).2)) else (0, ⟨#[]⟩, 0, 0)
def onC (L : List S34) (c : Cu) : Cu := if c.I < L.length then ⟨c.I + 1, c.p, c.q, c.b⟩ else c
def failC (L : List S34) (c : Cu) (e : Int) : Cu := if c.b = 0 ∧ e ≠ 0 then ⟨c.I, (peekC L c).2.2.1, (peekC L c).2.2.2, e⟩ else c
def takeB (L : List S34) (c : Cu) (kind : Int) (text : ByteArray) : Bool := decide (c.b = 0 ∧ (peekC L c).1 = kind ∧ (peekC L c).2.1.toList = text.toList)
def takeC (L : List S34) (c : Cu) (kind : Int) (text : ByteArray) : Cu := if takeB L c kind text = true then onC L c else c
abbrev stC (L : List S34) (c : Cu) : Bool × List S34 × Int × Int × Int × Int × Int := (true, L.drop c.I, (lastP L c.I).1, (lastP L c.I).2, c.p, c.q, c.b)
abbrev rtC (L : List S34) (c : Cu) : List S34 × Int × Int × Int × Int := (L, (c.I : Int), c.p, c.q, c.b)
theorem onC_le {L : List S34} {c : Cu} (h : c.I ≤ L.length) : (onC L c).I ≤ L.length := by
  unfold onC
  split
  · assumption
  · exact h
theorem onC_b (L : List S34) (c : Cu) : (onC L c).b = c.b := by unfold onC; split <;> rfl
theorem failC_I (L : List S34) (c : Cu) (e : Int) : (failC L c e).I = c.I := by unfold failC; split <;> rfl
theorem takeC_le {L : List S34} {c : Cu} (kind : Int) (text : ByteArray) (h : c.I ≤ L.length) : (takeC L c kind text).I ≤ L.length := by
  unfold takeC
  split
  · exact onC_le h
  · exact h
theorem rd_drop0 (L : List S34) (I : Nat) : rd_T34 (L.drop I) 0 = rd_T34 L (I : Int) := by
  unfold rd_T34
  rw [Int.toNat_natCast, List.getD_eq_getElem?_getD, List.getD_eq_getElem?_getD, List.getElem?_drop]
  rfl
/-! ### The program's cursor -/
theorem cur_ok (L : List S34) (c : Cu) : cursor_Cursor_ok.f true (L.drop c.I) (lastP L c.I).1 (lastP L c.I).2 c.p c.q c.b = some ((c.b == 0), stC L c) := rfl
theorem cur_peek (L : List S34) (c : Cu) (h : c.I ≤ L.length) : cursor_Cursor_Peek.f true (L.drop c.I) (lastP L c.I).1 (lastP L c.I).2 c.p c.q c.b = some ((peekC L c).1, (peekC L c).2.1, (peekC L c).2.2.1, (peekC L c).2.2.2, stC L c) := by
  unfold cursor_Cursor_Peek.f
  rw [cur_ok, Option.bind_some]
  dsimp only [stC]
  unfold peekC
  have ld : (L.drop c.I).length = L.length - c.I := List.length_drop
  by_cases hb : c.b = 0
  · rw [if_pos (by rw [beq_iff_eq]; exact hb), if_pos hb]
    by_cases hi : c.I < L.length
    · rw [if_neg (by omega), if_pos (by omega), if_pos hi, rd_drop0]
    · rw [if_pos (by omega), if_neg hi]
  · rw [if_neg (by rw [beq_iff_eq]; exact hb), if_neg hb]
theorem cur_next (L : List S34) (c : Cu) (h : c.I ≤ L.length) (hb : c.b = 0) : cursor_Cursor_next.f true (L.drop c.I) (lastP L c.I).1 (lastP L c.I).2 c.p c.q c.b = some (stC L (onC L c)) := by
  unfold cursor_Cursor_next.f onC
  have ld : (L.drop c.I).length = L.length - c.I := List.length_drop
  by_cases hi : c.I < L.length
  · rw [if_pos ⟨rfl, hb, by omega⟩, if_pos hi]
    unfold stC lastP
    dsimp only
    rw [if_neg (Nat.succ_ne_zero _), List.drop_drop, rd_drop0, show ((c.I + 1 : Nat) : Int) - 1 = (c.I : Int) from by omega, hb]
  · rw [if_neg (by omega), if_neg hi]
theorem cur_take (L : List S34) (c : Cu) (h : c.I ≤ L.length) (kind : Int) (text : ByteArray) : cursor_Cursor_Take.f true (L.drop c.I) (lastP L c.I).1 (lastP L c.I).2 c.p c.q c.b kind text = some (takeB L c kind text, stC L (takeC L c kind text)) := by
  unfold cursor_Cursor_Take.f
  rw [cur_peek L c h, Option.bind_some]
  dsimp only [stC]
  rw [cur_ok, Option.bind_some]
  dsimp only [stC]
  unfold takeC
  by_cases hb : c.b = 0
  · rw [if_pos (by rw [beq_iff_eq]; exact hb)]
    by_cases hk : (peekC L c).1 = kind
    · rw [if_pos hk]
      by_cases ht : (peekC L c).2.1.toList = text.toList
      · have e : takeB L c kind text = true := by unfold takeB; exact decide_eq_true ⟨hb, hk, ht⟩
        rw [if_pos ht, cur_next L c h hb, e, if_pos rfl]
        rfl
      · have e : takeB L c kind text = false := by unfold takeB; exact decide_eq_false (fun z => ht z.2.2)
        rw [if_neg ht, e, if_neg (by decide)]
    · have e : takeB L c kind text = false := by unfold takeB; exact decide_eq_false (fun z => hk z.2.1)
      rw [if_neg hk, e, if_neg (by decide)]
  · have e : takeB L c kind text = false := by unfold takeB; exact decide_eq_false (fun z => hb z.1)
    rw [if_neg (by rw [beq_iff_eq]; exact hb), e, if_neg (by decide)]
theorem cur_fail (L : List S34) (c : Cu) (h : c.I ≤ L.length) (e : Int) (he : e ≠ 0 ∨ c.b ≠ 0) : cursor_Cursor_Fail.f true (L.drop c.I) (lastP L c.I).1 (lastP L c.I).2 c.p c.q c.b e = some (stC L (failC L c e)) := by
  unfold cursor_Cursor_Fail.f
  rw [cur_ok, Option.bind_some]
  dsimp only [stC]
  unfold failC
  by_cases hb : c.b = 0
  · rw [if_pos (by rw [beq_iff_eq]; exact hb), cur_peek L c h, Option.bind_some, if_pos ⟨hb, by omega⟩]
  · rw [if_neg (by rw [beq_iff_eq]; exact hb), if_neg (fun z => hb z.1)]
theorem cur_want (L : List S34) (c : Cu) (h : c.I ≤ L.length) (kind : Int) (text : ByteArray) : cursor_Cursor_Want.f true (L.drop c.I) (lastP L c.I).1 (lastP L c.I).2 c.p c.q c.b kind text = some (stC L (if takeB L c kind text = true then takeC L c kind text else failC L c 2)) := by
  unfold cursor_Cursor_Want.f
  rw [cur_take L c h, Option.bind_some]
  by_cases t : takeB L c kind text = true
  · rw [if_pos t, if_pos t]
  · have e : takeC L c kind text = c := if_neg t
    rw [if_neg t, if_neg t, e]
    have f := cur_fail L c h 2 (.inl (by decide))
    dsimp only [stC]
    rw [f]
    rfl
theorem cur_fault (L : List S34) (c : Cu) : cursor_Cursor_Fault.f true (L.drop c.I) (lastP L c.I).1 (lastP L c.I).2 c.p c.q c.b = some (if c.b = 0 then 0 else c.p, if c.b = 0 then 0 else c.q, c.b, stC L c) := by
  unfold cursor_Cursor_Fault.f
  rw [if_pos rfl]
  by_cases hb : c.b = 0
  · rw [if_pos hb, if_pos hb, if_pos hb]
    rw [show stC L c = (true, L.drop c.I, (lastP L c.I).1, (lastP L c.I).2, c.p, c.q, c.b) from rfl, hb]
  · rw [if_neg hb, if_neg hb, if_neg hb]
theorem cur_said (L : List S34) (c : Cu) (h : c.I ≤ L.length) (kind e : Int) : Ev (fun k => cursor_Cursor_said.f k true (L.drop c.I) (lastP L c.I).1 (lastP L c.I).2 c.p c.q c.b kind e)
    (if c.b = 0 then (if (peekC L c).1 = kind then (if e = 0 then (true, stC L (onC L c)) else (false, stC L (failC L c e))) else (false, stC L (failC L c 2))) else (false, stC L c)) := by
  have j1t : ∀ x : Int, x ≠ 0 ∨ c.b ≠ 0 → Ev (fun k => cursor_Cursor_said.j1 k x true true (L.drop c.I) (lastP L c.I).1 (lastP L c.I).2 c.p c.q c.b) (false, stC L (failC L c x)) := by
    intro x hx
    refine Ev.step (fun k => by rw [cursor_Cursor_said.j1]) ?_
    refine evp rfl ?_
    exact evs (cur_fail L c h x hx) (Ev.now _)
  have j0 : ∀ x : Int, Ev (fun k => cursor_Cursor_said.j0 k x true (L.drop c.I) (lastP L c.I).1 (lastP L c.I).2 c.p c.q c.b) (if c.b = 0 then (if x = 0 then (true, stC L (onC L c)) else (false, stC L (failC L c x))) else (false, stC L c)) := by
    intro x
    refine Ev.step (fun k => by rw [cursor_Cursor_said.j0]) ?_
    have nf : c.b ≠ 0 → failC L c x = c := fun z => if_neg (fun y => z y.1)
    by_cases hx : x = 0
    · refine evp hx ?_
      refine evs (cur_ok L c) ?_
      by_cases hb : c.b = 0
      · have e : (if c.b = 0 then (if x = 0 then (true, stC L (onC L c)) else (false, stC L (failC L c x))) else (false, stC L c)) = (true, stC L (onC L c)) := (if_pos hb).trans (if_pos hx)
        rw [e]
        have b0 : (!(c.b == 0)) = false := by rw [show (c.b == 0) = true from by rw [beq_iff_eq]; exact hb]; rfl
        dsimp only [stC]
        rw [b0]
        refine Ev.step (fun k => by rw [cursor_Cursor_said.j1]) ?_
        refine evn (by decide) ?_
        exact evs (cur_next L c h hb) (Ev.now _)
      · have e : (if c.b = 0 then (if x = 0 then (true, stC L (onC L c)) else (false, stC L (failC L c x))) else (false, stC L c)) = (false, stC L (failC L c x)) := by rw [if_neg hb, nf hb]
        rw [e]
        have b0 : (!(c.b == 0)) = true := by rw [show (c.b == 0) = false from by rw [beq_eq_false_iff_ne]; exact hb]; rfl
        dsimp only [stC]
        rw [b0]
        exact j1t x (.inr hb)
    · refine evn hx ?_
      have e : (if c.b = 0 then (if x = 0 then (true, stC L (onC L c)) else (false, stC L (failC L c x))) else (false, stC L c)) = (false, stC L (failC L c x)) := by
        by_cases hb : c.b = 0
        · rw [if_pos hb, if_neg hx]
        · rw [if_neg hb, nf hb]
      rw [e]
      exact j1t x (.inl hx)
  unfold cursor_Cursor_said.f
  refine evs (cur_peek L c h) ?_
  by_cases hk : (peekC L c).1 = kind
  · refine evp hk ?_
    have e1 : (if c.b = 0 then (if (peekC L c).1 = kind then (if e = 0 then (true, stC L (onC L c)) else (false, stC L (failC L c e))) else (false, stC L (failC L c 2))) else (false, stC L c)) = (if c.b = 0 then (if e = 0 then (true, stC L (onC L c)) else (false, stC L (failC L c e))) else (false, stC L c)) := by rw [if_pos hk]
    rw [e1]
    exact j0 e
  · refine evn hk ?_
    have e1 : (if c.b = 0 then (if (peekC L c).1 = kind then (if e = 0 then (true, stC L (onC L c)) else (false, stC L (failC L c e))) else (false, stC L (failC L c 2))) else (false, stC L c)) = (if c.b = 0 then (if (2 : Int) = 0 then (true, stC L (onC L c)) else (false, stC L (failC L c 2))) else (false, stC L c)) := by rw [if_neg hk]; rfl
    rw [e1]
    exact j0 2
/-- The next token as a number that was got: where the cursor is then; the number. -/
def numC (L : List S34) (c : Cu) (n e lo hi : Int) : Cu × Int :=
  if c.b = 0 then (if (peekC L c).1 = 2 then (if e = 0 then (if n < lo ∨ n > hi then (failC L c 3, 0) else (onC L c, n)) else (failC L c e, 0)) else (failC L c 2, 0)) else (c, 0)
theorem numC_le {L : List S34} {c : Cu} (h : c.I ≤ L.length) (n e lo hi : Int) : (numC L c n e lo hi).1.I ≤ L.length := by
  unfold numC
  repeat' split
  all_goals first | exact onC_le h | (show (failC L c _).I ≤ _; rw [failC_I]; exact h) | exact h
theorem cur_number (L : List S34) (c : Cu) (h : c.I ≤ L.length) (n e lo hi : Int) : Ev (fun k => cursor_Cursor_number.f k true (L.drop c.I) (lastP L c.I).1 (lastP L c.I).2 c.p c.q c.b n e lo hi) ((numC L c n e lo hi).2, stC L (numC L c n e lo hi).1) := by
  have fin : ∀ (x : Int) {g : Nat → Option (Int × Bool × List S34 × Int × Int × Int × Int × Int)}, (numC L c n e lo hi = if c.b = 0 then (if (peekC L c).1 = 2 then (if x = 0 then (onC L c, n) else (failC L c x, 0)) else (failC L c 2, 0)) else (c, 0)) →
      g = (fun k => (cursor_Cursor_said.f k true (L.drop c.I) (lastP L c.I).1 (lastP L c.I).2 c.p c.q c.b 2 x).bind fun t => (if t.1 = true then (some (n, t.2.1, t.2.2.1, t.2.2.2.1, t.2.2.2.2.1, t.2.2.2.2.2.1, t.2.2.2.2.2.2.1, t.2.2.2.2.2.2.2)) else (some (0, t.2.1, t.2.2.1, t.2.2.2.1, t.2.2.2.2.1, t.2.2.2.2.2.1, t.2.2.2.2.2.2.1, t.2.2.2.2.2.2.2)))) → Ev g ((numC L c n e lo hi).2, stC L (numC L c n e lo hi).1) := by
    intro x g hN hg
    subst hg
    rw [hN]
    refine Ev.bind (cur_said L c h 2 x) ?_
    by_cases hb : c.b = 0
    · rw [if_pos hb, if_pos hb]
      by_cases hk : (peekC L c).1 = 2
      · rw [if_pos hk, if_pos hk]
        by_cases hx : x = 0
        · rw [if_pos hx, if_pos hx]
          exact evp rfl (Ev.now _)
        · rw [if_neg hx, if_neg hx]
          exact evn Bool.false_ne_true (Ev.now _)
      · rw [if_neg hk, if_neg hk]
        exact evn Bool.false_ne_true (Ev.now _)
    · rw [if_neg hb, if_neg hb]
      exact evn Bool.false_ne_true (Ev.now _)
  have j0 : ∀ d : Bool, (e = 0 → (d = true ↔ (n < lo ∨ n > hi))) → (e ≠ 0 → d = false) → Ev (fun k => cursor_Cursor_number.j0 k n e d true (L.drop c.I) (lastP L c.I).1 (lastP L c.I).2 c.p c.q c.b) ((numC L c n e lo hi).2, stC L (numC L c n e lo hi).1) := by
    intro d h0 h1
    refine Ev.step (fun k => by rw [cursor_Cursor_number.j0]) ?_
    by_cases hd : d = true
    · have he : e = 0 := Classical.byContradiction (fun z => by rw [h1 z] at hd; cases hd)
      refine evp hd ?_
      refine fin 3 ?_ rfl
      unfold numC
      rw [if_pos he, if_pos ((h0 he).1 hd)]
      rfl
    · refine evn hd ?_
      refine fin e ?_ rfl
      unfold numC
      by_cases he : e = 0
      · rw [if_pos he, if_pos he, if_neg (fun z => hd ((h0 he).2 z))]
      · rw [if_neg he, if_neg he]
  unfold cursor_Cursor_number.f
  by_cases he : e = 0
  · refine evp he ?_
    by_cases hl : n < lo
    · exact evp hl (j0 true (fun _ => ⟨fun _ => .inl hl, fun _ => rfl⟩) (fun z => absurd he z))
    · refine evn hl (j0 _ (fun _ => ?_) (fun z => absurd he z))
      rw [decide_eq_true_iff]
      omega
  · exact evn he (j0 false (fun z => absurd z he) (fun _ => rfl))
theorem cur_count (L : List S34) (c : Cu) (h : c.I ≤ L.length) (hs : (peekC L c).2.1.size < 1000000) (lo hi : Int) : Ev (fun k => cursor_Cursor_Count.f k true (L.drop c.I) (lastP L c.I).1 (lastP L c.I).2 c.p c.q c.b lo hi)
    ((numC L c (getv (numsOf (peekC L c).2.1)).1 (getv (numsOf (peekC L c).2.1)).2 lo hi).2, stC L (numC L c (getv (numsOf (peekC L c).2.1)).1 (getv (numsOf (peekC L c).2.1)).2 lo hi).1) := by
  unfold cursor_Cursor_Count.f
  refine evs (cur_peek L c h) ?_
  refine Ev.bind (get_ok _ hs) ?_
  exact Ev.bind (cur_number L c h _ _ lo hi) (Ev.now _)
/-! ### The document's cursor -/
theorem ref_peek13 (L : List S34) (hL : L.length < 1000000) (c : Cu) (h : c.I ≤ L.length) : regimenref13_Peek.f L (c.I : Int) c.p c.q c.b = some (peekC L c) := by
  unfold regimenref13_Peek.f peekC
  by_cases hb : c.b = 0
  · rw [if_pos hb, if_pos hb]
    by_cases hi : c.I < L.length
    · rw [if_pos (by omega), if_pos (by omega), if_pos hi]
    · rw [if_neg (by omega), if_neg hi]
      have e : c.I = L.length := by omega
      unfold lastP
      rw [e]
      by_cases z : L.length = 0
      · rw [if_pos (by omega), if_pos z]
      · rw [if_neg (by omega), if_neg z, w64_id (by omega) (by omega), if_pos (by omega), if_pos (by omega)]
  · rw [if_neg hb, if_neg hb]
theorem ref_on13 (L : List S34) (hL : L.length < 1000000) (c : Cu) : regimenref13_On.f L (c.I : Int) c.p c.q c.b = some (rtC L (onC L c)) := by
  unfold regimenref13_On.f onC
  by_cases hi : c.I < L.length
  · rw [if_pos (by omega), if_pos hi, w64_succ (by omega)]
  · rw [if_neg (by omega), if_neg hi]
theorem ref_take13 (L : List S34) (hL : L.length < 1000000) (c : Cu) (h : c.I ≤ L.length) (kind : Int) (text : ByteArray) : regimenref13_Take.f L (c.I : Int) c.p c.q c.b kind text = some ((rtC L (takeC L c kind text)).1, (rtC L (takeC L c kind text)).2.1, (rtC L (takeC L c kind text)).2.2.1, (rtC L (takeC L c kind text)).2.2.2.1, (rtC L (takeC L c kind text)).2.2.2.2, takeB L c kind text) := by
  unfold regimenref13_Take.f
  rw [ref_peek13 L hL c h, Option.bind_some]
  unfold takeC
  by_cases hb : c.b = 0
  · rw [if_pos hb]
    by_cases hk : (peekC L c).1 = kind
    · rw [if_pos hk]
      by_cases ht : (peekC L c).2.1.toList = text.toList
      · have e : takeB L c kind text = true := by unfold takeB; exact decide_eq_true ⟨hb, hk, ht⟩
        rw [if_pos ht, ref_on13 L hL c, e, if_pos rfl]
        rfl
      · have e : takeB L c kind text = false := by unfold takeB; exact decide_eq_false (fun z => ht z.2.2)
        rw [if_neg ht, e, if_neg (by decide)]
    · have e : takeB L c kind text = false := by unfold takeB; exact decide_eq_false (fun z => hk z.2.1)
      rw [if_neg hk, e, if_neg (by decide)]
  · have e : takeB L c kind text = false := by unfold takeB; exact decide_eq_false (fun z => hb z.1)
    rw [if_neg hb, e, if_neg (by decide)]
theorem ref_fail13 (L : List S34) (hL : L.length < 1000000) (c : Cu) (h : c.I ≤ L.length) (e : Int) : regimenref13_Fail.f L (c.I : Int) c.p c.q c.b e = some (rtC L (failC L c e)) := by
  unfold regimenref13_Fail.f failC
  by_cases hb : c.b = 0
  · rw [if_pos hb]
    by_cases he : e = 0
    · rw [if_pos he, if_neg (fun z => z.2 he)]
    · rw [if_neg he, ref_peek13 L hL c h, if_pos ⟨hb, he⟩]
      rfl
  · rw [if_neg hb, if_neg (fun z => hb z.1)]
theorem ref_number13 (L : List S34) (hL : L.length < 1000000) (c : Cu) (h : c.I ≤ L.length) (n e lo hi : Int) : Ev (fun k => regimenref13_number.f k L (c.I : Int) c.p c.q c.b n e lo hi)
    ((rtC L (numC L c n e lo hi).1).1, (rtC L (numC L c n e lo hi).1).2.1, (rtC L (numC L c n e lo hi).1).2.2.1, (rtC L (numC L c n e lo hi).1).2.2.2.1, (rtC L (numC L c n e lo hi).1).2.2.2.2, (numC L c n e lo hi).2) := by
  unfold regimenref13_number.f
  by_cases hb : c.b = 0
  · refine evp hb ?_
    refine evs (ref_peek13 L hL c h) ?_
    by_cases hk : (peekC L c).1 = 2
    · refine evp hk ?_
      by_cases he : e = 0
      · refine evp he ?_
        have j0 : ∀ d : Bool, (d = true ↔ (n < lo ∨ n > hi)) → Ev (fun k => regimenref13_number.j0 k n d L (c.I : Int) c.p c.q c.b) ((rtC L (numC L c n e lo hi).1).1, (rtC L (numC L c n e lo hi).1).2.1, (rtC L (numC L c n e lo hi).1).2.2.1, (rtC L (numC L c n e lo hi).1).2.2.2.1, (rtC L (numC L c n e lo hi).1).2.2.2.2, (numC L c n e lo hi).2) := by
          intro d hd
          have N : numC L c n e lo hi = if n < lo ∨ n > hi then (failC L c 3, 0) else (onC L c, n) := by unfold numC; rw [if_pos hb, if_pos hk, if_pos he]
          refine Ev.step (fun k => by rw [regimenref13_number.j0]) ?_
          by_cases q : n < lo ∨ n > hi
          · rw [N, if_pos q]
            refine evp (hd.2 q) ?_
            exact evs (ref_fail13 L hL c h 3) (Ev.now _)
          · rw [N, if_neg q]
            refine evn (fun z => q (hd.1 z)) ?_
            exact evs (ref_on13 L hL c) (Ev.now _)
        by_cases hl : n < lo
        · exact evp hl (j0 true ⟨fun _ => .inl hl, fun _ => rfl⟩)
        · refine evn hl (j0 _ ?_)
          rw [decide_eq_true_iff]
          omega
      · have N : numC L c n e lo hi = (failC L c e, 0) := by unfold numC; rw [if_pos hb, if_pos hk, if_neg he]
        rw [N]
        refine evn he ?_
        exact evs (ref_fail13 L hL c h e) (Ev.now _)
    · have N : numC L c n e lo hi = (failC L c 2, 0) := by unfold numC; rw [if_pos hb, if_neg hk]
      rw [N]
      refine evn hk ?_
      exact evs (ref_fail13 L hL c h 2) (Ev.now _)
  · have N : numC L c n e lo hi = (c, 0) := by unfold numC; rw [if_neg hb]
    rw [N]
    exact evn hb (Ev.now _)
theorem ref_count13 (L : List S34) (hL : L.length < 1000000) (c : Cu) (h : c.I ≤ L.length) (hs : (peekC L c).2.1.size < 1000000) (lo hi : Int) : Ev (fun k => regimenref13_Count.f k L (c.I : Int) c.p c.q c.b lo hi)
    ((rtC L (numC L c (getv (numsOf (peekC L c).2.1)).1 (getv (numsOf (peekC L c).2.1)).2 lo hi).1).1, (rtC L (numC L c (getv (numsOf (peekC L c).2.1)).1 (getv (numsOf (peekC L c).2.1)).2 lo hi).1).2.1, (rtC L (numC L c (getv (numsOf (peekC L c).2.1)).1 (getv (numsOf (peekC L c).2.1)).2 lo hi).1).2.2.1, (rtC L (numC L c (getv (numsOf (peekC L c).2.1)).1 (getv (numsOf (peekC L c).2.1)).2 lo hi).1).2.2.2.1, (rtC L (numC L c (getv (numsOf (peekC L c).2.1)).1 (getv (numsOf (peekC L c).2.1)).2 lo hi).1).2.2.2.2, (numC L c (getv (numsOf (peekC L c).2.1)).1 (getv (numsOf (peekC L c).2.1)).2 lo hi).2) := by
  unfold regimenref13_Count.f
  refine evs (ref_peek13 L hL c h) ?_
  refine Ev.bind (ref_get_ok _ hs) ?_
  exact Ev.bind (ref_number13 L hL c h _ _ lo hi) (Ev.now _)
theorem failC_b (L : List S34) (c : Cu) (e : Int) (h : c.b ≠ 0) : failC L c e = c := if_neg (fun z => h z.1)
theorem takeB_b {L : List S34} {c : Cu} (kind : Int) (text : ByteArray) (h : c.b ≠ 0) : takeB L c kind text = false := by unfold takeB; exact decide_eq_false (fun z => h z.1)
/-- The fault has a place only if there is one. -/
def okC (c : Cu) : Prop := c.b = 0 → c.p = 0 ∧ c.q = 0
theorem okC_fail {L : List S34} {c : Cu} (e : Int) (h : okC c) : okC (failC L c e) := by
  unfold failC
  split
  · rename_i z
    exact fun y => absurd y z.2
  · exact h
theorem okC_on {L : List S34} {c : Cu} (h : okC c) : okC (onC L c) := by
  unfold onC
  split
  · exact h
  · exact h
theorem okC_take {L : List S34} {c : Cu} (kind : Int) (text : ByteArray) (h : okC c) : okC (takeC L c kind text) := by
  unfold takeC
  split
  · exact okC_on h
  · exact h
theorem okC_num {L : List S34} {c : Cu} (h : okC c) (n e lo hi : Int) : okC (numC L c n e lo hi).1 := by
  unfold numC
  repeat' split
  all_goals first | exact okC_on h | exact okC_fail _ h | exact h
end Go.Proofs.Ytnmmhfpekeeedaa.Num
