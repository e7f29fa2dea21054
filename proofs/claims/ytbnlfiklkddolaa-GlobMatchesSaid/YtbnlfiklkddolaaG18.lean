/- The walk of the law GlobMatches. Printed by gen18.py. Conditions: none beyond the statement's own. -/
import Derived.Test.YtbnlfiklkddolaaG17
import Derived.Test.YtbnlfiklkddolaaG15
import Derived.Test.YtbnlfiklkddolaaG7
namespace Go.Proofs.Ytbnlfiklkddolaa.Sep
set_option linter.unusedSimpArgs false
set_option linter.unusedVariables false
open Go.RowKit Go.Proofs.Ytbnlfiklkddolaa.PCore Go.Proofs.Ytbnlfiklkddolaa.Plain Go.Proofs.YtbnlfiklkddolaaW.PrintWords Go.Proofs.YtbnlfiklkddolaaW.PrintLast Go.Proofs.YtbnlfiklkddolaaW.PrintMore
set_option maxHeartbeats 16000000 in
set_option maxRecDepth 100000 in
theorem globMatches_walk (p s : ByteArray) (W : World) (h0 : p.size ≤ 140737488351232) (h1 : s.size ≤ 140737488351232) :
    Calls Try.prog 4 #[.string p, .string s] W fun e W1 => e = .returned (.bool true) ∧ Below W.heap.size W W1 := by
  by_cases hp : (110 : Int) < (p.size : Int)
  · have d1 : decide ((110 : Int) < (p.size : Int)) = true := decide_eq_true hp
    have d1N : decide (110 < p.size) = true := decide_eq_true (by omega)
    clear hp h0 h1
    go_enter Try.func4, Try.ntmps4
    go_wp2_with (go_at_call 8; refine (awake31_calls _).mono ?_; rintro e w1 ⟨rfl, hb⟩; have HB1 := Aside0.mk hb; clear hb)
    go_ret
    exact ⟨rfl, HB1.out⟩
  · have d1 : decide ((110 : Int) < (p.size : Int)) = false := decide_eq_false hp
    have d1N : decide (110 < p.size) = false := decide_eq_false (by omega)
    by_cases ht : (80 : Int) < (s.size : Int)
    · have d2 : decide ((80 : Int) < (s.size : Int)) = true := decide_eq_true ht
      have d2N : decide (80 < s.size) = true := decide_eq_true (by omega)
      clear hp ht h0 h1
      go_enter Try.func4, Try.ntmps4
      go_wp2_with (go_at_call 8; refine (awake31_calls _).mono ?_; rintro e w1 ⟨rfl, hb⟩; have HB1 := Aside0.mk hb; clear hb)
      go_ret
      exact ⟨rfl, HB1.out⟩
    · have d2 : decide ((80 : Int) < (s.size : Int)) = false := decide_eq_false ht
      have d2N : decide (80 < s.size) = false := decide_eq_false (by omega)
      have HST := Aside0.mk (show s.size ≤ 1000000 by omega)
      have HSR := Aside0.mk (show s.size ≤ 1000 by omega)
      have HPR := Aside0.mk (show p.size ≤ 1000 by omega)
      have HPM := Aside0.mk (show p.size ≤ 1000000 by omega)
      by_cases hl : 100 < p.size
      · have HP1 := Aside0.mk hl
        have HGA := Aside0.mk (show globAns p = 2 by rw [globAns, if_pos hl])
        clear hp ht h0 h1 hl
        go_enter Try.func4, Try.ntmps4
        go_wp2_with (first | (go_at_call 11; refine (rglob_calls p _).mono ?_; rw [HGA.out]; rintro e w3 ⟨rfl, hb⟩; have HB3 := Aside0.mk (below_step HB2.out hb); clear hb) | (go_at_call 9; refine (parse_long HP1.out HPM.out _).mono ?_; rintro e w2 ⟨rfl, hb⟩; have HB2 := Aside0.mk (below_step HB1.out hb); clear hb) | (go_at_call 8; refine (awake31_calls _).mono ?_; rintro e w1 ⟨rfl, hb⟩; have HB1 := Aside0.mk hb; clear hb))
        go_ret
        exact ⟨by first | rfl | simp, HB3.out⟩
      · have HP1 := Aside0.mk (show p.size ≤ 100 by omega)
        cases hpa : pat (bytesOf p) with
        | none =>
          have HPA := Aside0.mk hpa
          have HGA := Aside0.mk (show globAns p = 180 by rw [globAns, if_neg hl, hpa]; rfl)
          clear hp ht h0 h1 hl hpa
          go_enter Try.func4, Try.ntmps4
          go_wp2_with (first | (go_at_call 11; refine (rglob_calls p _).mono ?_; rw [HGA.out]; rintro e w3 ⟨rfl, hb⟩; have HB3 := Aside0.mk (below_step HB2.out hb); clear hb) | (go_at_call 9; refine (parse_bad HP1.out HPA.out _).mono ?_; rintro e w2 ⟨rfl, hb⟩; have HB2 := Aside0.mk (below_step HB1.out hb); clear hb) | (go_at_call 8; refine (awake31_calls _).mono ?_; rintro e w1 ⟨rfl, hb⟩; have HB1 := Aside0.mk hb; clear hb))
          go_ret
          exact ⟨by first | rfl | simp, HB3.out⟩
        | some l =>
          have HPA := Aside0.mk hpa
          have HGA := Aside0.mk (show globAns p = 0 by rw [globAns, if_neg hl, hpa]; rfl)
          obtain ⟨m, hm⟩ : ∃ m, mtB l (bytesOf s) = m := ⟨_, rfl⟩
          have HMB := Aside0.mk hm
          clear hp ht h0 h1 hl hpa hm
          cases m with
          | true =>
            go_enter Try.func4, Try.ntmps4
            go_wp2_with (first | (go_at_call 15; refine (string31_calls g _ _ _ HG7.out).mono ?_; rintro e w8 ⟨rfl, hb⟩; have HB8 := Aside0.mk (below_step HB7.out hb); clear hb) | (go_at_call 14; refine (rprefix_calls p l _ HPR.out HPA.out).mono ?_; rintro e w7 ⟨rfl, hb⟩; have HB7 := Aside0.mk (below_step HB6.out hb); have HG7 := Aside0.mk (HG6.out.below hb); clear hb) | (go_at_call 13; refine (prefix31_calls g _ _ _ HG5.out).mono ?_; rintro e w6 ⟨rfl, hb⟩; have HB6 := Aside0.mk (below_step HB5.out hb); have HG6 := Aside0.mk (HG5.out.below hb); clear hb) | (go_at_call 12; refine (rmatch_calls p s l _ HPR.out HSR.out HPA.out).mono ?_; rw [HMB.out]; rintro e w5 ⟨rfl, hb⟩; have HB5 := Aside0.mk (below_step HB4.out hb); have HG5 := Aside0.mk (HG4.out.below hb); clear hb) | (go_at_call 10; refine (match31_calls g _ _ s _ HG3.out HST.out).mono ?_; rw [HMB.out]; rintro e w4 ⟨rfl, hb⟩; have HB4 := Aside0.mk (below_step HB3.out hb); have HG4 := Aside0.mk (HG3.out.below hb); clear hb) | (go_at_call 11; refine (rglob_calls p _).mono ?_; rw [HGA.out]; rintro e w3 ⟨rfl, hb⟩; have HB3 := Aside0.mk (below_step HB2.out hb); have HG3 := Aside0.mk (HG2.out.below hb); clear hb) | (go_at_call 9; refine (parse_ok HP1.out HPA.out _).mono ?_; rintro e w2 ⟨g, rfl, hg, hb⟩; have HB2 := Aside0.mk (below_step HB1.out hb); have HG2 := Aside0.mk hg; clear hb hg) | (go_at_call 8; refine (awake31_calls _).mono ?_; rintro e w1 ⟨rfl, hb⟩; have HB1 := Aside0.mk hb; clear hb))
            go_ret
            exact ⟨by first | rfl | simp, HB8.out⟩
          | false =>
            go_enter Try.func4, Try.ntmps4
            go_wp2_with (first | (go_at_call 15; refine (string31_calls g _ _ _ HG7.out).mono ?_; rintro e w8 ⟨rfl, hb⟩; have HB8 := Aside0.mk (below_step HB7.out hb); clear hb) | (go_at_call 14; refine (rprefix_calls p l _ HPR.out HPA.out).mono ?_; rintro e w7 ⟨rfl, hb⟩; have HB7 := Aside0.mk (below_step HB6.out hb); have HG7 := Aside0.mk (HG6.out.below hb); clear hb) | (go_at_call 13; refine (prefix31_calls g _ _ _ HG5.out).mono ?_; rintro e w6 ⟨rfl, hb⟩; have HB6 := Aside0.mk (below_step HB5.out hb); have HG6 := Aside0.mk (HG5.out.below hb); clear hb) | (go_at_call 12; refine (rmatch_calls p s l _ HPR.out HSR.out HPA.out).mono ?_; rw [HMB.out]; rintro e w5 ⟨rfl, hb⟩; have HB5 := Aside0.mk (below_step HB4.out hb); have HG5 := Aside0.mk (HG4.out.below hb); clear hb) | (go_at_call 10; refine (match31_calls g _ _ s _ HG3.out HST.out).mono ?_; rw [HMB.out]; rintro e w4 ⟨rfl, hb⟩; have HB4 := Aside0.mk (below_step HB3.out hb); have HG4 := Aside0.mk (HG3.out.below hb); clear hb) | (go_at_call 11; refine (rglob_calls p _).mono ?_; rw [HGA.out]; rintro e w3 ⟨rfl, hb⟩; have HB3 := Aside0.mk (below_step HB2.out hb); have HG3 := Aside0.mk (HG2.out.below hb); clear hb) | (go_at_call 9; refine (parse_ok HP1.out HPA.out _).mono ?_; rintro e w2 ⟨g, rfl, hg, hb⟩; have HB2 := Aside0.mk (below_step HB1.out hb); have HG2 := Aside0.mk hg; clear hb hg) | (go_at_call 8; refine (awake31_calls _).mono ?_; rintro e w1 ⟨rfl, hb⟩; have HB1 := Aside0.mk hb; clear hb))
            go_ret
            exact ⟨by first | rfl | simp, HB8.out⟩
end Go.Proofs.Ytbnlfiklkddolaa.Sep
