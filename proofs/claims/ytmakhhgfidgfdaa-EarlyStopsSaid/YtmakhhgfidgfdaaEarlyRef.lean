/- Where a run stops (layer 30): the reference's marks and window, by value. -/
import Derived.Test.YtmakhhgfidgfdaaPBx10
import Derived.Test.YtmakhhgfidgfdaaPBx11
import Derived.Test.YtmakhhgfidgfdaaEarly
namespace Go.Proofs.Ytmakhhgfidgfdaa.Num
set_option linter.unusedVariables false
set_option linter.unusedSimpArgs false
open Go.RowKit Go.Proofs.Ytmakhhgfidgfdaa.PB Go.Proofs.YtmakhhgfidgfdaaW.PrintWords Go.Proofs.YtmakhhgfidgfdaaW.PrintMore

theorem getD_set_b (l : List Bool) (i j : Nat) (v : Bool) (hi : i < l.length) : (l.set i v).getD j false = if i = j then v else l.getD j false := by
  rw [List.getD_eq_getElem?_getD, List.getD_eq_getElem?_getD, List.getElem?_set]
  by_cases c : i = j
  · rw [if_pos c, if_pos c, if_pos (by omega)]
    rfl
  · rw [if_neg c, if_neg c]
theorem marks_loop (l : List Int) (m rel : Bool) {d : Int} (hd : word d) (hl : ∀ x, x ∈ l → word x) (hn : l.length < 1000000) (e : Nat) : ∀ (i : Nat) (M : List Bool), i + e = l.length → M.length = l.length → (∀ k, k < i → M.getD k false = emark l m d rel k) →
    ∃ r : List Bool, Ev (fun k => regimenref30_Marks.l0 k l M (est l m d rel i).2.1 (i : Int) m d rel) r ∧ r.length = l.length ∧ ∀ k, k < l.length → r.getD k false = emark l m d rel k := by
  induction e with
  | zero =>
    intro i M h hM hk
    refine ⟨M, ?_, hM, fun k hk2 => hk k (by omega)⟩
    refine Ev.step (fun k => by rw [regimenref30_Marks.l0]) ?_
    refine evn (by omega) ?_
    exact Ev.now _
  | succ e ih =>
    intro i M h hM hk
    obtain ⟨b0, b1, h1, h2⟩ := est_mark l m d rel i (by omega)
    have nx : ∀ v, v = emark l m d rel i → ∀ k, k < i + 1 → (M.set i v).getD k false = emark l m d rel k := by
      intro v hv k hk2
      rw [getD_set_b M i k v (by omega)]
      by_cases c : i = k
      · rw [if_pos c, hv, c]
      · rw [if_neg c]
        exact hk k (by omega)
    by_cases i0 : i = 0
    · have mk : emark l m d rel i = true := by rw [i0]; exact mark_zero l m d rel
      obtain ⟨r, hr, lr, gr⟩ := ih (i + 1) (M.set i true) (by omega) (by rw [List.length_set]; exact hM) (nx true mk.symm)
      refine ⟨r, ?_, lr, gr⟩
      rw [h1 mk] at hr
      refine Ev.step (fun k => by rw [regimenref30_Marks.l0]) ?_
      refine evp (by omega) ?_
      refine evp (by omega) ?_
      refine evp (by omega) ?_
      refine evp (by omega) ?_
      refine evs rfl ?_
      rw [rd_nat, w64_succ (by omega)]
      exact hr
    · have mk : emark l m d rel i = isb (l.getD i 0) (est l m d rel i).2.1 m d rel := by
        unfold emark
        rw [decide_eq_false i0]
        rfl
      obtain ⟨r, hr, lr, gr⟩ := ih (i + 1) (M.set i (isb (l.getD i 0) (est l m d rel i).2.1 m d rel)) (by omega) (by rw [List.length_set]; exact hM) (nx _ mk.symm)
      refine ⟨r, ?_, lr, gr⟩
      refine Ev.step (fun k => by rw [regimenref30_Marks.l0]) ?_
      refine evp (by omega) ?_
      refine evn (by omega) ?_
      refine evp (by omega) ?_
      rw [rd_nat]
      refine Ev.bind (ref_is_ok m rel (getD_word hl i) (est_word m d rel hl i) hd) ?_
      refine evp (by omega) ?_
      refine evs rfl ?_
      rw [w64_succ (by omega)]
      by_cases c : isb (l.getD i 0) (est l m d rel i).2.1 m d rel = true
      · refine evp c ?_
        rw [h1 (by rw [mk]; exact c)] at hr
        exact hr
      · refine evn c ?_
        rw [h2 (by rw [mk]; simpa using c)] at hr
        exact hr
theorem marks_ok (l : List Int) (m rel : Bool) {d : Int} (hd : word d) (hl : ∀ x, x ∈ l → word x) (hn : l.length < 1000000) :
    ∃ r : List Bool, Ev (fun k => regimenref30_Marks.f k l m d rel) r ∧ r.length = l.length ∧ ∀ k, k < l.length → r.getD k false = emark l m d rel k := by
  obtain ⟨r, hr, lr, gr⟩ := marks_loop l m rel hd hl hn l.length 0 (List.replicate l.length false) (by omega) (by simp) (fun k hk => by omega)
  refine ⟨r, ?_, lr, gr⟩
  unfold regimenref30_Marks.f
  refine evp (by omega) ?_
  refine evp (by omega) ?_
  exact hr
/-- The window, from j down to above B. -/
theorem window_loop (l : List Int) (M : List Bool) (p : Int) (i : Nat) (hi : i < M.length) (hn : M.length < 1000000) {R : Int} (G : Bool → Prop) (B : Int) (hB : wrap64 ((i : Int) - p) = B)
    (fin : ∀ g, G g → Ev (fun k => if p ≥ 1 then (if (i : Int) ≥ p then (if g = true then (regimenref30_Stops.l0 k l p M (wrap64 ((i : Int) + 1))) else (some (i : Int))) else (regimenref30_Stops.l0 k l p M (wrap64 ((i : Int) + 1)))) else (regimenref30_Stops.l0 k l p M (wrap64 ((i : Int) + 1)))) R) (e : Nat) :
    ∀ (j : Int) (g : Bool), j + 1 = e → j ≤ i → (∀ g', (g' = true ↔ g = true ∨ ∃ k : Nat, (k : Int) ≤ j ∧ (k : Int) > B ∧ M.getD k false = true) → G g') → Ev (fun k => regimenref30_Stops.l1 k l p M (i : Int) g j) R := by
  induction e with
  | zero =>
    intro j g hj hji hG
    have f := fin g (hG g ⟨fun h => .inl h, fun h => by
      rcases h with h | ⟨k, h1, _⟩
      · exact h
      · omega⟩)
    refine Ev.step (fun k => by rw [regimenref30_Stops.l1]) ?_
    rw [hB]
    by_cases c : j > B
    · refine evp c ?_
      refine evn (by omega) ?_
      exact f
    · exact evn c f
  | succ e ih =>
    intro j g hj hji hG
    obtain ⟨n, rfl⟩ : ∃ n : Nat, j = (n : Int) := ⟨j.toNat, by omega⟩
    refine Ev.step (fun k => by rw [regimenref30_Stops.l1]) ?_
    rw [hB]
    by_cases c : (n : Int) > B
    · refine evp c ?_
      refine evp (by omega) ?_
      rw [w64_id (x := (n : Int) - 1) (by omega) (by omega)]
      by_cases q : g = true
      · refine evp q ?_
        refine ih ((n : Int) - 1) true (by omega) (by omega) (fun g' h => hG g' ?_)
        rw [h]
        exact ⟨fun _ => .inl q, fun _ => .inl rfl⟩
      · refine evn q ?_
        refine evp (by omega) ?_
        refine evp (by omega) ?_
        rw [show rdOf false M (n : Int) = M.getD n false from rfl]
        refine ih ((n : Int) - 1) (M.getD n false) (by omega) (by omega) (fun g' h => hG g' ?_)
        rw [h]
        constructor
        · rintro (a | ⟨k, a, b, b2⟩)
          · exact .inr ⟨n, by omega, c, a⟩
          · exact .inr ⟨k, by omega, b, b2⟩
        · rintro (a | ⟨k, a, b, b2⟩)
          · exact absurd a q
          · by_cases kn : k = n
            · rw [kn] at b2
              exact .inl b2
            · exact .inr ⟨k, by omega, b, b2⟩
    · refine evn c ?_
      refine fin g (hG g ⟨fun h => .inl h, fun h => ?_⟩)
      rcases h with h | ⟨k, h1, h2, _⟩
      · exact h
      · omega
theorem ref_stops_loop (l : List Int) (M : List Bool) (p : Int) (hp : -9223372036854775808 ≤ p) (hp2 : p ≤ 1099511627776) (m rel : Bool) (d : Int) (hM : M.length = l.length) (hn : l.length < 100000) (hk : ∀ k, k < l.length → M.getD k false = emark l m d rel k) (e : Nat) :
    ∀ i : Nat, i + e = l.length → Ev (fun k => regimenref30_Stops.l0 k l p M (i : Int)) (firstp (fun j => outs (est l m d rel (j + 1)) p) i e) := by
  induction e with
  | zero =>
    intro i h
    refine Ev.step (fun k => by rw [regimenref30_Stops.l0]) ?_
    refine evn (by omega) ?_
    exact Ev.now _
  | succ e ih =>
    intro i h
    have w := bad_window l m d rel i
    have nxt := ih (i + 1) (by omega)
    refine Ev.step (fun k => by rw [regimenref30_Stops.l0]) ?_
    refine evp (by omega) ?_
    refine window_loop l M p i (by omega) (by omega) (fun g => p ≥ 1 → (g = true ↔ ∃ k : Nat, (k : Int) ≤ i ∧ (k : Int) > (i : Int) - p ∧ emark l m d rel k = true)) _ rfl ?_ (i + 1) (i : Int) false (by omega) (Int.le_refl _) ?_
    · intro g hg
      rw [w64_succ (by omega)]
      have no : outs (est l m d rel (i + 1)) p = false → firstp (fun j => outs (est l m d rel (j + 1)) p) i (e + 1) = firstp (fun j => outs (est l m d rel (j + 1)) p) (i + 1) e := fun h => if_neg (by
      show ¬ outs (est l m d rel (i + 1)) p = true
      rw [h]
      simp)
      by_cases c : p ≥ 1
      · refine evp c ?_
        have hg := hg c
        by_cases q : (i : Int) ≥ p
        · refine evp q ?_
          by_cases z : g = true
          · refine evp z ?_
            obtain ⟨k, k1, k2, k3⟩ := hg.1 z
            rw [no (by
              unfold outs
              refine decide_eq_false (fun hh => ?_)
              have := ((w p c (by omega)).1 hh.2).2 k k2 (by omega)
              rw [k3] at this
              cases this)]
            exact nxt
          · refine evn z ?_
            rw [show firstp (fun j => outs (est l m d rel (j + 1)) p) i (e + 1) = (i : Int) from if_pos (by
              refine decide_eq_true ⟨c, (w p c (by omega)).2 ⟨q, fun k k1 k2 => ?_⟩⟩
              cases hm : emark l m d rel k with
              | false => rfl
              | true => exact absurd (hg.2 ⟨k, by omega, k1, hm⟩) z)]
            exact Ev.now _
        · refine evn q ?_
          rw [no (by
            unfold outs
            refine decide_eq_false (fun hh => q ((w p c (by omega)).1 hh.2).1))]
          exact nxt
      · refine evn c ?_
        rw [no (by
          unfold outs
          exact decide_eq_false (fun hh => c hh.1))]
        exact nxt
    · intro g' hg c
      rw [w64_id (by omega) (by omega)] at hg
      rw [hg]
      constructor
      · rintro (a | ⟨k, a, b, b2⟩)
        · cases a
        · exact ⟨k, a, b, by rw [← hk k (by omega)]; exact b2⟩
      · rintro ⟨k, a, b, b2⟩
        exact .inr ⟨k, a, b, by rw [hk k (by omega)]; exact b2⟩
theorem ref_stops_ok (l : List Int) (p : Int) (hp : -9223372036854775808 ≤ p) (hp2 : p ≤ 1099511627776) (m rel : Bool) {d : Int} (hd : word d) (hl : ∀ x, x ∈ l → word x) (hn : l.length < 100000) :
    Ev (fun k => regimenref30_Stops.f k l p m d rel) (firstp (fun j => outs (est l m d rel (j + 1)) p) 0 l.length) := by
  obtain ⟨M, hM, lM, gM⟩ := marks_ok l m rel hd hl (by omega)
  unfold regimenref30_Stops.f
  refine Ev.bind hM ?_
  exact ref_stops_loop l M p hp hp2 m rel d lM hn gM l.length 0 (by omega)
end Go.Proofs.Ytmakhhgfidgfdaa.Num
