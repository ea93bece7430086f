/- Whatever is read, by a factor that is a part, a cut may be, Scale never rises, and is a power of the factor: for all readings. -/
import Derived.Test.YtmakhhgfidgfdaaPHx11
import Derived.Test.YtmakhhgfidgfdaaPHx12
import Derived.Test.YtmakhhgfidgfdaaHPlat
namespace Go.Proofs.Ytmakhhgfidgfdaa.Pure
set_option linter.unusedVariables false
open Go.RowKit Go.Proofs.Ytmakhhgfidgfdaa.PH Go.Proofs.Ytmakhhgfidgfdaa.Num Go.Proofs.YtmakhhgfidgfdaaW.PrintWords Go.Proofs.YtmakhhgfidgfdaaW.PrintLast Go.Proofs.YtmakhhgfidgfdaaW.PrintMore

theorem awake31b : Ev (fun k => regimenlaw31_awake.f k) true := Ev.of (fun k => regimenlaw31_awake.mono k) (k := 80) (by decide +kernel)

theorem etk_bad (s : Bool × Int × Int) (x : Int) (m : Bool) (d : Int) (rel : Bool) : 0 ≤ (etk s x m d rel).2.2 ∧ (etk s x m d rel).2.2 ≤ 1099511627776 := by
  unfold etk mn mx
  split
  · split
    · exact ⟨by simp, by simp⟩
    · refine ⟨?_, ?_⟩ <;> (dsimp only; split <;> split <;> omega)
  · exact ⟨by simp, by simp⟩

theorem falls_loop (l : List Int) (p0 : Bool) (t : ByteArray) (m : Bool) (factor patience cooldown p6 d : Int) (hl : ∀ x, x ∈ l → word x) (hn : l.length < 1000) (hf0 : 0 ≤ factor) (hf1 : factor ≤ 4294967296) (hc0 : 0 ≤ cooldown) (hc1 : cooldown ≤ 1099511627776) (hd : word d) (e : Nat) :
    ∀ (i : Nat) (h : Bool) (b q rest scale : Int), i + e = l.length → word b → 0 ≤ rest → rest ≤ 1099511627776 → 0 ≤ scale → scale ≤ 4294967296 →
      Ev (fun k => regimenlaw31_PlatFalls.l0 k l (i : Int) p0 t m factor patience cooldown p6 d h b q rest scale) true := by
  induction e with
  | zero =>
    intro i h b q rest scale hi hb r0 r1 s0 s1
    refine Ev.step (fun k => by rw [regimenlaw31_PlatFalls.l0]) ?_
    refine evn (by omega) ?_
    exact Ev.bind awake31b (Ev.now _)
  | succ e ih =>
    intro i h b q rest scale hi hb r0 r1 s0 s1
    have sw : word scale := ⟨by omega, by omega⟩
    have fw : word factor := ⟨by omega, by omega⟩
    have t1 := plat_take_ok h b q rest scale (l.getD i 0) p0 t m factor patience cooldown p6 d hb (getD_word hl i) hd ⟨by omega, by omega⟩ sw fw
    have t2 := ref_plat_take_ok true 0 1099511627776 0 scale 0 false (⟨#[]⟩ : ByteArray) false factor 1 0 0 0 ⟨by omega, by omega⟩ ⟨by omega, by omega⟩ ⟨by omega, by omega⟩ ⟨by omega, by omega⟩ ⟨by omega, by omega⟩ sw fw
    have e2 : (ptk (etk (true, 0, 1099511627776) 0 false 0 false) 0 scale factor 1 0).2.2.2.2.1 = (fmul scale factor).1 := by
      have z : etk (true, 0, 1099511627776) 0 false 0 false = (true, 0, 1099511627776) := by decide +kernel
      rw [z]
      unfold ptk
      rw [if_neg (by omega), if_pos (by decide)]
    have bw := etk_word (s := (h, b, q)) m d false hb (getD_word hl i)
    have bb := etk_bad (h, b, q) (l.getD i 0) m d false
    have bh := etk_has (h, b, q) (l.getD i 0) m d false
    obtain ⟨u, u0, u1, u2, _⟩ := fmul_part sw hf0 hf1
    rw [if_neg (by omega)] at u2
    rw [show iabs scale = scale from if_neg (by omega)] at u1
    refine Ev.step (fun k => by rw [regimenlaw31_PlatFalls.l0]) ?_
    refine evp (by omega) ?_
    refine evp (by omega) ?_
    rw [rd_nat]
    refine Ev.bind t1 ?_
    refine Ev.bind t2 ?_
    refine Ev.bind (check_ok _ _ _ _ _) ?_
    rw [e2, u2, w64_succ (by omega)]
    generalize etk (h, b, q) (l.getD i 0) m d false = w at bw bb bh ⊢
    obtain ⟨w1, w2, w3⟩ := w
    dsimp only at bw bb bh
    subst bh
    by_cases c : rest > 0
    · rw [show ptk (true, w2, w3) rest scale factor patience cooldown = (true, w2, 0, rest - 1, scale, false) from if_pos c]
      refine evp (decide_eq_true ⟨by dsimp only; omega, by dsimp only; omega, by simp, by simp, s0, s1, .inl rfl⟩) ?_
      refine evn (by simp) ?_
      refine evn (by simp) ?_
      refine evp rfl ?_
      exact ih (i + 1) true w2 0 (rest - 1) scale (by omega) bw (by omega) (by omega) s0 s1
    · by_cases o : outs (true, w2, w3) patience = true
      · rw [show ptk (true, w2, w3) rest scale factor patience cooldown = (true, w2, 0, cooldown, u, true) from by unfold ptk; rw [if_neg c, if_pos o, u2]]
        refine evp (decide_eq_true ⟨hc0, hc1, by simp, by simp, u0, by dsimp only; omega, .inl rfl⟩) ?_
        refine evn (by dsimp only; omega) ?_
        refine evp rfl ?_
        refine evp rfl ?_
        exact ih (i + 1) true w2 0 cooldown u (by omega) bw hc0 hc1 u0 (by omega)
      · rw [show ptk (true, w2, w3) rest scale factor patience cooldown = (true, w2, w3, rest, scale, false) from by unfold ptk; rw [if_neg c, if_neg o]]
        refine evp (decide_eq_true ⟨r0, r1, bb.1, bb.2, s0, s1, .inl rfl⟩) ?_
        refine evn (by simp) ?_
        refine evn (by simp) ?_
        refine evp rfl ?_
        exact ih (i + 1) true w2 w3 rest scale (by omega) bw r0 r1 s0 s1

theorem PlatFalls : regimenlaw31_PlatFalls.Pure := by
  intro l p0 t m factor patience cooldown p6 d hl ht hf hp hc h6 hd
  have hd : word d := i64_wf hd
  have hlw : ∀ x, x ∈ l → word x := fun x h => i64_wf (hl.2.2 x h)
  refine Ev.rounds (r := true) ?_
  have fin : Ev (fun k => regimenlaw31_PlatFalls.j0 k l true p0 t m factor patience cooldown p6 d) true := by
    refine Ev.step (fun k => by rw [regimenlaw31_PlatFalls.j0]) ?_
    refine evp rfl ?_
    exact Ev.bind awake31b (Ev.now _)
  unfold regimenlaw31_PlatFalls.f
  by_cases c1 : (l.length : Int) > 60
  · exact evp c1 fin
  · refine evn c1 ?_
    by_cases c2 : factor < 0
    · exact evp c2 fin
    · refine evn c2 ?_
      by_cases c3 : factor > 4294967296
      · exact evp c3 fin
      · refine evn c3 ?_
        by_cases c4 : cooldown < 0
        · exact evp c4 fin
        · refine evn c4 ?_
          by_cases c5 : cooldown > 1099511627776
          · rw [decide_eq_true c5]
            exact fin
          · rw [decide_eq_false c5]
            refine Ev.step (fun k => by rw [regimenlaw31_PlatFalls.j0]) ?_
            refine evn (by simp) ?_
            refine evs rfl ?_
            refine evn (by decide) ?_
            exact falls_loop l p0 t m factor patience cooldown p6 d hlw (by omega) (by omega) (by omega) (by omega) (by omega) hd l.length 0 false 0 0 0 4294967296 (by omega) ⟨by omega, by omega⟩ (by omega) (by omega) (by omega) (by omega)
end Go.Proofs.Ytmakhhgfidgfdaa.Pure
