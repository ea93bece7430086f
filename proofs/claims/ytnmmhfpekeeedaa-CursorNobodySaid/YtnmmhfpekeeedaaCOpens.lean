/- What a Go value that can be read as data holds, told by the print's kinds: for the rows of laws over records, arrays and slices. -/
import Derived.Test.YtnmmhfpekeeedaaVC
import Derived.ProofKit
import Derived.OpenShut
import Derived.SizedLaws
import Derived.Deep.Slices
namespace Go.Proofs.Ytnmmhfpekeeedaa.Opn
set_option linter.unusedVariables false
set_option linter.unusedSimpArgs false
open Go.RowKit Go.Deep Go.Proofs.YtnmmhfpekeeedaaW.PrintWords

def Opens (P : Program) {α : Type} (d : Kd α) (t : TypeId) (wf : α → Prop) : Prop :=
  ∀ (H : Type) (enc : TypeId × Value → H) (w : World) (spare : Nat → Bool) (held : Bool) (fuel : Nat) (cs : List Value) (x : DataW H × List MemPlace),
    DataW.trod enc P w 0 spare held fuel t cs = some x → (∀ n, n ∈ x.1.weights P t → n ≤ reachBytes) → ∃ y, wf y ∧ d.K w y cs

section
variable {P : Program} {t e : TypeId} {α β : Type} {d : Kd α} {wf : α → Prop}
theorem opens_int {k : IntKind} (hu : P.underlying t = some (.int k)) : Opens P (Kd.int k) t (fun n => (Lit.int k n).wf = true) := by
  intro H enc w spare held fuel cs x h _
  obtain ⟨n, rfl, _, hw⟩ := DataW.trod_int hu h
  exact ⟨n, hw, rfl⟩
theorem opens_bool (hu : P.underlying t = some .bool) : Opens P Kd.bool t (fun _ => True) := by
  intro H enc w spare held fuel cs x h _
  obtain ⟨b, rfl, _⟩ := DataW.trod_bool hu h
  exact ⟨b, trivial, rfl⟩
theorem opens_string (hu : P.underlying t = some .string) : Opens P Kd.string t (fun s => s.size ≤ 140737488351232) := by
  intro H enc w spare held fuel cs x h hn
  obtain ⟨s, rfl, rfl, _⟩ := DataW.trod_string hu h
  have h1 := hn s.data.toList.length (by simp [DataW.weights])
  exact ⟨s, by simpa [reachBytes] using h1, rfl⟩
theorem opens_slice {B : Nat} (hu : P.underlying t = some (.slice e)) (hd : Opens P d e wf) (hs : d.sz = P.cellsOf e) (hB : P.bytesOf e = B) : Opens P (Kd.slice e d) t (fun l => l.length ≤ maxLen ∧ l.length * B ≤ 140737488351232 ∧ ∀ x, x ∈ l → wf x) := by
  subst hB
  intro H enc w spare held fuel cs x h hn
  rcases open_slice hu h with ⟨rfl, rfl⟩ | ⟨a, len, cap, m, n, D, Pl, rfl, _, hlc, hcm, hm, rfl, hel⟩
  · exact ⟨[], ⟨Nat.zero_le _, by simp, fun x hx => by cases hx⟩, none, 0, rfl, Nat.le_refl _, rfl, Nat.zero_le _, fun h => absurd h (Nat.lt_irrefl _)⟩
  · have hlm : len ≤ m := by rw [hm]; split <;> omega
    have hw : ∀ i, i < len → ∀ k, k ∈ (D i).weights P e → k ≤ reachBytes := by
      intro i hi k hk
      refine hn k ?_
      simp only [DataW.weights, hu]
      refine List.mem_cons_of_mem _ (List.mem_append_left _ ?_)
      have : ∀ (L : List (DataW H)) (z : DataW H), z ∈ L → k ∈ z.weights P e → k ∈ DataW.weightsAll P e L := by
        intro L z hz hk
        induction L with
        | nil => cases hz
        | cons y L ih =>
          rw [DataW.weightsAll]
          rcases List.mem_cons.1 hz with rfl | hz
          · exact List.mem_append_left _ hk
          · exact List.mem_append_right _ (ih hz)
      exact this _ (D i) (List.mem_map.2 ⟨i, List.mem_range.2 hi, rfl⟩) hk
    have hb : len * P.bytesOf e ≤ 140737488351232 := by
      have h1 := hn ((((List.range len).map D).length + ((List.range (m - len)).map fun j => D (len + j)).length) * P.bytesOf e) (by simp only [DataW.weights, hu]; exact List.mem_cons_self)
      simp only [List.length_map, List.length_range] at h1
      exact Nat.le_trans (Nat.mul_le_mul_right _ (by omega)) h1
    have hall : ∀ j, j ≤ len → ∃ xs : List α, xs.length = j ∧ (∀ x, x ∈ xs → wf x) ∧ ∀ i p, xs[i]? = some p → ∃ c, c.length = d.sz ∧ d.K w p c ∧ ∀ q u, c[q]? = some u → w.cell? (a.add (i * d.sz + q)) = some u := by
      intro j
      induction j with
      | zero => exact fun _ => ⟨[], rfl, fun x hx => (by cases hx), fun i p h => (by simp at h)⟩
      | succ j ih =>
        intro hj
        obtain ⟨xs, h1, h2, h3⟩ := ih (by omega)
        obtain ⟨cs', hc1, hc2⟩ := hel j (by omega)
        obtain ⟨y, hy1, hy2⟩ := hd H enc w spare held n cs' _ hc2 (hw j (by omega))
        refine ⟨xs ++ [y], by simp [h1], ?_, ?_⟩
        · intro x hx
          rcases List.mem_append.1 hx with hx | hx
          · exact h2 x hx
          · rw [List.mem_singleton.1 hx]; exact hy1
        · intro i p hp
          by_cases hi : i < xs.length
          · rw [List.getElem?_append_left hi] at hp
            exact h3 i p hp
          · have hi2 := (List.getElem?_eq_some_iff.1 hp).1
            rw [List.length_append, List.length_singleton] at hi2
            obtain rfl : i = j := by omega
            have : p = y := by
              rw [List.getElem?_append_right (by omega), h1, Nat.sub_self] at hp
              simpa using hp.symm
            subst this
            refine ⟨cs', d.K_len hy2, hy2, fun q u hq => ?_⟩
            have hq2 := (List.getElem?_eq_some_iff.1 hq).1
            rw [d.K_len hy2, hs] at hq2
            have h5 := (World.cells?_some hc1).2.2 q hq2
            rw [hq] at h5
            rw [hs, ← h5, Go.Proofs.YtnmmhfpekeeedaaW.PrintWords.add_add]
    obtain ⟨xs, h1, h2, h3⟩ := hall len (Nat.le_refl _)
    refine ⟨xs, ⟨by rw [h1]; omega, by rw [h1]; exact hb, h2⟩, some a, cap, by rw [h1], by rw [h1]; exact hlc, rfl, ?_, fun _ => ⟨a, rfl, h3⟩⟩
    rw [h1]
    simp only [maxLen] at hcm
    omega
theorem opens_iso {f : β → α} (g : α → β) (hg : ∀ y, f (g y) = y) (hd : Opens P d t wf) : Opens P (Kd.iso d f) t (fun x => wf (f x)) := by
  intro H enc w spare held fuel cs x h hn
  obtain ⟨y, h1, h2⟩ := hd H enc w spare held fuel cs x h hn
  exact ⟨g y, show wf (f (g y)) by rw [hg]; exact h1, show d.K w (f (g y)) cs by rw [hg]; exact h2⟩

/-! records -/
def OpensF (P : Program) {α : Type} (d : Kd α) (fs : List Field) (off tot : Nat) (wf : α → Prop) : Prop :=
  ∀ (H : Type) (enc : TypeId × Value → H) (w : World) (spare : Nat → Bool) (held : Bool) (m : Nat) (cs : List Value) (xs : List (DataW H × List MemPlace)),
    xs.length = fs.length → cs.length = tot → (∀ (i : Nat) (f : Field), fs[i]? = some f → DataW.trod enc P w 0 spare held m f.type ((cs.drop f.offset).take (P.cellsOf f.type)) = xs[i]?) →
    (∀ n, n ∈ DataW.weightsEach P (fs.map (·.type)) (xs.map (·.1)) → n ≤ reachBytes) → ∃ y, wf y ∧ d.K w y (cs.drop off)
theorem opensF_one {f : Field} {off tot : Nat} (ho : f.offset = off) (ht : off + P.cellsOf f.type = tot) (hd : Opens P d f.type wf) : OpensF P d [f] off tot wf := by
  intro H enc w spare held m cs xs hl hc hx hn
  match xs, hl with
  | [x], _ =>
    have h := hx 0 f rfl
    rw [ho, List.take_of_length_le (by rw [List.length_drop]; omega)] at h
    exact hd H enc w spare held m _ x h (fun n hm => hn n (by simpa [DataW.weightsEach] using hm))
theorem opensF_cons {b : Kd β} {wfb : β → Prop} {f : Field} {fs : List Field} {off tot : Nat} (ho : f.offset = off) (hd : Opens P d f.type wf) (hb : OpensF P b fs (off + P.cellsOf f.type) tot wfb) :
    OpensF P (Kd.pair d b) (f :: fs) off tot (fun x => wf x.1 ∧ wfb x.2) := by
  intro H enc w spare held m cs xs hl hc hx hn
  match xs, hl with
  | x :: xs, hl =>
    have h := hx 0 f rfl
    rw [ho] at h
    obtain ⟨y, hy1, hy2⟩ := hd H enc w spare held m _ x h (fun n hm => hn n (by simp only [List.map_cons, DataW.weightsEach]; exact List.mem_append_left _ hm))
    obtain ⟨z, hz1, hz2⟩ := hb H enc w spare held m cs xs (by simpa using hl) hc (fun i g hg => hx (i + 1) g hg) (fun n hm => hn n (by simp only [List.map_cons, DataW.weightsEach]; exact List.mem_append_right _ hm))
    refine ⟨(y, z), ⟨hy1, hz1⟩, _, _, ?_, hy2, hz2⟩
    rw [← List.drop_drop, List.take_append_drop]
theorem opens_struct {fs : List Field} (hu : P.underlying t = some (.struct fs.toArray)) {tot : Nat} (ht : P.cellsOf t = tot) (hd : OpensF P d fs 0 tot wf) : Opens P d t wf := by
  intro H enc w spare held fuel cs x h hn
  obtain ⟨xs, n, _, rfl, hc, hl, hx⟩ := DataW.trod_struct hu h
  have := hd H enc w spare held n cs xs (by simpa using hl) (by rw [hc, ht]) (fun i f hf => hx i f (by simpa using hf)) (fun n hm => hn n (by simp only [DataW.weights, hu]; exact hm))
  exact this

/-! arrays -/
def OpensA (P : Program) {α : Type} (d : Kd α) (e : TypeId) (k n : Nat) (wf : α → Prop) : Prop :=
  ∀ (H : Type) (enc : TypeId × Value → H) (w : World) (spare : Nat → Bool) (held : Bool) (m : Nat) (cs : List Value) (xs : List (DataW H × List MemPlace)),
    xs.length = n → cs.length = n * P.cellsOf e → (∀ (i : Nat), i < n → DataW.trod enc P w 0 spare held m e ((cs.drop (i * P.cellsOf e)).take (P.cellsOf e)) = xs[i]?) →
    (∀ x, x ∈ xs → ∀ n, n ∈ x.1.weights P e → n ≤ reachBytes) → ∃ y, wf y ∧ d.K w y (cs.drop (k * P.cellsOf e))
theorem opensA_one {k n : Nat} (hk : k + 1 = n) (hd : Opens P d e wf) : OpensA P d e k n wf := by
  intro H enc w spare held m cs xs hl hc hx hn
  have h := hx k (by omega)
  have hk' : k < xs.length := by omega
  rw [List.getElem?_eq_getElem hk', List.take_of_length_le (by rw [List.length_drop, hc, ← hk, Nat.succ_mul]; omega)] at h
  exact hd H enc w spare held m _ _ h (hn _ (List.getElem_mem hk'))
theorem opensA_cons {b : Kd β} {wfb : β → Prop} {k n : Nat} (hk : k < n) (hd : Opens P d e wf) (hb : OpensA P b e (k + 1) n wfb) : OpensA P (Kd.pair d b) e k n (fun x => wf x.1 ∧ wfb x.2) := by
  intro H enc w spare held m cs xs hl hc hx hn
  have h := hx k hk
  have hk' : k < xs.length := by omega
  rw [List.getElem?_eq_getElem hk'] at h
  obtain ⟨y, hy1, hy2⟩ := hd H enc w spare held m _ _ h (hn _ (List.getElem_mem hk'))
  obtain ⟨z, hz1, hz2⟩ := hb H enc w spare held m cs xs hl hc hx hn
  refine ⟨(y, z), ⟨hy1, hz1⟩, _, _, ?_, hy2, hz2⟩
  rw [Nat.succ_mul, ← List.drop_drop, List.take_append_drop]
theorem opens_array {n : Nat} (hu : P.underlying t = some (.array n e)) (hc0 : P.cellsOf t = n * P.cellsOf e) (hd : OpensA P d e 0 n wf) : Opens P d t wf := by
  intro H enc w spare held fuel cs x h hn
  obtain ⟨xs, m, _, rfl, hc, hl, hx⟩ := DataW.trod_array hu h
  have := hd H enc w spare held m cs xs hl (by rw [hc, hc0]) hx (fun x hx n hm => hn n (by
    simp only [DataW.weights, hu]
    have : ∀ (L : List (DataW H)) (z : DataW H), z ∈ L → n ∈ z.weights P e → n ∈ DataW.weightsAll P e L := by
      intro L z hz hk
      induction L with
      | nil => cases hz
      | cons y L ih =>
        rw [DataW.weightsAll]
        rcases List.mem_cons.1 hz with rfl | hz
        · exact List.mem_append_left _ hk
        · exact List.mem_append_right _ (ih hz)
    exact this _ x.1 (List.mem_map.2 ⟨x, hx, rfl⟩) hm))
  simpa using this

/-! an argument -/
theorem weights_at {H : Type} {P : Program} : ∀ {ts : List TypeId} {ds : List (DataW H)} {j : Nat} {t : TypeId} {D : DataW H}, (DataW.weightsEach P ts ds).all (· ≤ reachBytes) = true → ts[j]? = some t → ds[j]? = some D → ∀ n, n ∈ D.weights P t → n ≤ reachBytes
  | t :: ts, D :: ds, 0, _, _, h, ht, hd, n, hn => by
    simp at ht hd
    subst ht hd
    rw [DataW.weightsEach] at h
    have := List.all_eq_true.1 h n (List.mem_append_left _ hn)
    simpa using this
  | t :: ts, D :: ds, j + 1, _, _, h, ht, hd, n, hn => by
    simp at ht hd
    refine weights_at (ts := ts) (ds := ds) (j := j) ?_ ht hd n hn
    rw [DataW.weightsEach] at h
    exact List.all_eq_true.2 fun q hq => List.all_eq_true.1 h q (List.mem_append_right _ hq)
  | [], _, _, _, _, _, ht, _, _, _ => by simp at ht
  | _ :: _, [], _, _, _, _, _, hd, _, _ => by simp at hd
theorem opens_arg {H : Type} {enc : TypeId × Value → H} {w : World} {spare : Nat → Bool} {held : Bool} {v : Value} {D : DataW H} {ps : List MemPlace} {ts : List TypeId} {ds : List (DataW H)} {j : Nat} (hd : Opens P d t wf)
    (hsz : (DataW.weightsEach P ts ds).all (· ≤ reachBytes) = true) (ht : ts[j]? = some t) (hD : ds[j]? = some D) (h : DataW.Trod enc P w 0 spare held t v D ps) : ∃ y, wf y ∧ d.K w y v.cells.toList := by
  obtain ⟨fuel, hf⟩ := h
  exact hd H enc w spare held fuel _ _ hf (weights_at hsz ht hD)
theorem agg_of {w : World} {r : Reach} {b : Nat} {v : Value} {l : List Value} (hv : Value.okWide P w r b t v) (hu : (∃ fs, P.underlying t = some (.struct fs)) ∨ ∃ n e, P.underlying t = some (.array n e)) (h : v.cells.toList = l) : v = .agg l.toArray := by
  have : ∃ cs, v = .agg cs := by
    unfold Value.okWide at hv
    rcases hu with ⟨fs, hu⟩ | ⟨n, e, hu⟩ <;> (rw [hu] at hv; obtain ⟨cs, h1, _⟩ := hv; exact ⟨cs, h1⟩)
  obtain ⟨cs, rfl⟩ := this
  subst h
  simp [Value.cells]
end
end Go.Proofs.Ytnmmhfpekeeedaa.Opn
