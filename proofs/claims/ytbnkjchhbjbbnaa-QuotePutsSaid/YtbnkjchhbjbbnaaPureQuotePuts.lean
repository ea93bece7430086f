/- Any text's quoted text is as told, is got again, and stands by itself, whatever stands behind it: for all texts. -/
import Derived.Test.YtbnkjchhbjbbnaaPQx0
import Derived.Test.YtbnkjchhbjbbnaaPQx2
import Derived.Test.YtbnkjchhbjbbnaaPQx5
import Derived.Test.YtbnkjchhbjbbnaaQQuoteP
namespace Go.Proofs.Ytbnkjchhbjbbnaa.Pure
set_option linter.unusedVariables false
open Go.RowKit Go.Proofs.Ytbnkjchhbjbbnaa.PQ Go.Proofs.Ytbnkjchhbjbbnaa.Num Go.Proofs.YtbnkjchhbjbbnaaW.PrintWords Go.Proofs.YtbnkjchhbjbbnaaW.PrintLast Go.Proofs.YtbnkjchhbjbbnaaW.PrintMore

theorem awake11 : Ev (fun k => regimenlaw11_awake.f k) true := Ev.of (fun k => regimenlaw11_awake.mono k) (k := 80) (by decide +kernel)

theorem QuotePuts : regimenlaw11_QuotePuts.Pure := by
  intro s t hs ht
  refine Ev.rounds (r := true) ?_
  have fin : Ev (fun k => regimenlaw11_QuotePuts.j0 k s t true) true := by
    refine Ev.step (fun k => by rw [regimenlaw11_QuotePuts.j0]) ?_
    refine evp rfl ?_
    exact Ev.bind awake11 (Ev.now _)
  unfold regimenlaw11_QuotePuts.f
  by_cases c1 : (s.size : Int) > 500
  · exact evp c1 fin
  refine evn c1 ?_
  by_cases c2 : (t.size : Int) > 500
  · rw [decide_eq_true c2]
    exact fin
  rw [decide_eq_false c2]
  have hl := nums_len s
  have hb := nums_byte s
  have pb := put_byte hb
  have ln : (putV (numsOf s)).length ≤ 2002 := by
    have := encAll_len (numsOf s)
    simp only [putV, List.length_cons, List.length_append, List.length_nil]
    omega
  have l0 : 0 < (putV (numsOf s)).length := by simp [putV]
  have r1 := read_put hb []
  rw [List.append_nil] at r1
  have r2 := read_put hb (numsOf t)
  have q1 : numsOf (strOfNums (putV (numsOf s))) = putV (numsOf s) := nums_str pb
  have q2 : numsOf (strOfNums (putV (numsOf s)) ++ t) = putV (numsOf s) ++ numsOf t := by rw [nums_app, q1]
  have z1 : (strOfNums (putV (numsOf s))).size = (putV (numsOf s)).length := strOfNums_size _
  have z2 : (strOfNums (putV (numsOf s)) ++ t).size = (putV (numsOf s)).length + t.size := by
    have := nums_len (strOfNums (putV (numsOf s)) ++ t)
    rw [q2, List.length_append, nums_len] at this
    omega
  have g := getq_ok (strOfNums (putV (numsOf s))) (R := (strOfNums (numsOf s), ((putV (numsOf s)).length : Int))) (by omega) (by rw [q1]; exact r1)
  have sp := span_ok (strOfNums (putV (numsOf s)) ++ t) (R := (strOfNums (numsOf s), ((putV (numsOf s)).length : Int))) (by omega) (by rw [q2]; exact r2)
  rw [show getQ (strOfNums (numsOf s), ((putV (numsOf s)).length : Int)) (strOfNums (putV (numsOf s))).size = (strOfNums (numsOf s), 0) from by
    unfold getQ
    rw [if_neg (by
      dsimp only
      omega)]] at g
  refine Ev.step (fun k => by rw [regimenlaw11_QuotePuts.j0]) ?_
  refine evn (by simp) ?_
  refine Ev.bind (put_ok s (by omega)) ?_
  refine Ev.bind g ?_
  refine evp (by omega) ?_
  refine Ev.bind sp ?_
  refine Ev.bind (ref_put_ok s (by omega)) ?_
  refine evp rfl ?_
  refine evp (by rw [str_nums]) ?_
  refine evp rfl ?_
  refine evp (by rw [z1]) ?_
  refine evp (decide_eq_true (by dsimp only; omega)) ?_
  exact Ev.bind awake11 (Ev.now _)
end Go.Proofs.Ytbnkjchhbjbbnaa.Pure
