/- Any quotient of a number of 128 bits, rounded, and any such number shifted down, rounded, are as the reference has them: for every number, divisor and shift. -/
import Derived.Test.YtbnkjchhbjbbnaaPAx6
import Derived.Test.YtbnkjchhbjbbnaaPAx7
import Derived.Test.YtbnkjchhbjbbnaaPAx12
import Derived.Test.YtbnkjchhbjbbnaaHalf
namespace Go.Proofs.Ytbnkjchhbjbbnaa.Pure
set_option linter.unusedVariables false
open Go.RowKit Go.Proofs.Ytbnkjchhbjbbnaa.PA Go.Proofs.Ytbnkjchhbjbbnaa.Num Go.Proofs.YtbnkjchhbjbbnaaW.PrintWords Go.Proofs.YtbnkjchhbjbbnaaW.PrintLast Go.Proofs.YtbnkjchhbjbbnaaW.PrintMore

theorem awake03b : Ev (fun k => regimenlaw03_awake.f k) true := Ev.of (fun k => regimenlaw03_awake.mono k) (k := 60) (by decide +kernel)

theorem near_l0 (a0 a1 n : Int) (h0 : 0 ≤ a0 ∧ a0 < 18446744073709551616) (h1 : 0 ≤ a1 ∧ a1 < 18446744073709551616) (hn : -9223372036854775808 ≤ n ∧ n < 9223372036854775808) (d : Nat) :
    ∀ (i : Nat), min n.toNat 63 - i = d → i ≤ min n.toNat 63 → Ev (fun k => regimenlaw03_HalfNear.l0 k n (2 ^ i) (i : Int) a0 a1) true := by
  induction d with
  | zero =>
    intro i hd hi
    have ei : i = min n.toNat 63 := by omega
    have hp1 := p2_pos i
    have hp2 : (2 : Int) ^ i < 18446744073709551616 := by
      have h := p2_split i (by omega)
      have h2 := p2_pred (m := 64 - i) (by omega)
      have h3 := p2_pos (64 - i - 1)
      have h4 : (2 : Int) ^ i * 2 ≤ 2 ^ i * 2 ^ (64 - i) := Int.mul_le_mul_of_nonneg_left (by omega) (Int.le_of_lt hp1)
      omega
    have hs := half_shift_ok n h0 h1
    have hr := ref_near_ok (d := 2 ^ i) h0.1 h0.2 h1.1 h1.2 (Int.le_of_lt hp1) hp2
    rw [← ei] at hs
    refine Ev.step (fun k => by rw [regimenlaw03_HalfNear.l0]) ?_
    have tail : Ev (fun k => (half_Shift.f k a0 a1 n).bind fun bt458 => ((regimenref03_Near.f k a0 a1 (2 ^ i)).bind fun bt460 => (if bt458.1 = bt460.1 then (if bt458.2 = bt460.2 then ((regimenlaw03_awake.f k).bind fun t462 => (some t462)) else (some false)) else (some false)))) true := by
      refine Ev.bind hs ?_
      refine Ev.bind hr ?_
      refine evp rfl ?_
      refine evp rfl ?_
      exact Ev.bind awake03b (Ev.now _)
    by_cases c : (i : Int) < n
    · refine evp c ?_
      refine evn (by omega) ?_
      exact tail
    · refine evn c ?_
      exact tail
  | succ d ih =>
    intro i hd hi
    have hp1 := p2_pos i
    have h := ih (i + 1) (by omega) (by omega)
    have hp2 : 2 * (2 : Int) ^ i < 18446744073709551616 := by
      have h := p2_split (i + 1) (by omega)
      have h2 := p2_pred (m := 64 - (i + 1)) (by omega)
      have h3 := p2_pos (64 - (i + 1) - 1)
      have h5 := p2_pos (i + 1)
      have h4 : (2 : Int) ^ (i + 1) * 2 ≤ 2 ^ (i + 1) * 2 ^ (64 - (i + 1)) := Int.mul_le_mul_of_nonneg_left (by omega) (Int.le_of_lt h5)
      have h6 : (2 : Int) ^ (i + 1) = 2 ^ i * 2 := Int.pow_succ _ _
      omega
    refine Ev.step (f := fun k => regimenlaw03_HalfNear.l0 k n (2 ^ (i + 1)) ((i + 1 : Nat) : Int) a0 a1) (fun k => ?_) h
    rw [regimenlaw03_HalfNear.l0, if_pos (by omega), if_pos (by omega), u64_id (by omega) hp2, w64_succ (by omega), Int.mul_comm, ← Int.pow_succ]

theorem HalfNear : regimenlaw03_HalfNear.Pure := by
  intro a0 a1 d n h0 h1 hd hn
  have h0 := u64_wf h0
  have h1 := u64_wf h1
  have hd := u64_wf hd
  have hn := i64_wf hn
  refine Ev.rounds (r := true) ?_
  have hq := half_near_ok h0.1 h0.2 h1.1 h1.2 hd.1 hd.2
  have hr := ref_near_ok h0.1 h0.2 h1.1 h1.2 hd.1 hd.2
  unfold regimenlaw03_HalfNear.f
  refine Ev.bind hq ?_
  refine Ev.bind hr ?_
  refine evp rfl ?_
  rw [show ((near (a1 + 18446744073709551616 * a0) d).2 != (near (a1 + 18446744073709551616 * a0) d).2) = false by simp]
  refine Ev.step (fun k => by rw [regimenlaw03_HalfNear.j0]) ?_
  refine evn (by simp) ?_
  exact near_l0 a0 a1 n h0 h1 hn _ 0 rfl (Nat.zero_le _)
end Go.Proofs.Ytbnkjchhbjbbnaa.Pure
