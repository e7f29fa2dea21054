/- The walk of the law GlobQuotes. Printed by gen11.py. Conditions: none beyond the statement's own. -/
import Derived.Test.YtbnlfiklkddolaaG10
namespace Go.Proofs.Ytbnlfiklkddolaa.Sep
set_option linter.unusedSimpArgs false
set_option linter.unusedVariables false
open Go.RowKit Go.Proofs.Ytbnlfiklkddolaa.PCore Go.Proofs.Ytbnlfiklkddolaa.Plain Go.Proofs.YtbnlfiklkddolaaW.PrintWords Go.Proofs.YtbnlfiklkddolaaW.PrintLast Go.Proofs.YtbnlfiklkddolaaW.PrintMore
set_option maxHeartbeats 16000000 in
set_option maxRecDepth 100000 in
theorem globQuotes_walk (s t : ByteArray) (W : World) (h0 : s.size ≤ 140737488351232) (h1 : t.size ≤ 140737488351232) :
    Calls Try.prog 6 #[.string s, .string t] W fun e W1 => e = .returned (.bool true) ∧ Below W.heap.size W W1 := by
  by_cases hs : (45 : Int) < (s.size : Int)
  · have d1 : decide ((45 : Int) < (s.size : Int)) = true := decide_eq_true hs
    have d1N : decide (45 < s.size) = true := decide_eq_true (by omega)
    clear hs h0 h1
    go_enter Try.func6, Try.ntmps6
    go_wp2_with (go_at_call 8; refine (awake31_calls _).mono ?_; rintro e w1 ⟨rfl, hb⟩; have HB1 := Aside0.mk hb; clear hb)
    go_ret
    exact ⟨rfl, HB1.out⟩
  · have d1 : decide ((45 : Int) < (s.size : Int)) = false := decide_eq_false hs
    have d1N : decide (45 < s.size) = false := decide_eq_false (by omega)
    by_cases ht : (80 : Int) < (t.size : Int)
    · have d2 : decide ((80 : Int) < (t.size : Int)) = true := decide_eq_true ht
      have d2N : decide (80 < t.size) = true := decide_eq_true (by omega)
      clear hs ht h0 h1
      go_enter Try.func6, Try.ntmps6
      go_wp2_with (go_at_call 8; refine (awake31_calls _).mono ?_; rintro e w1 ⟨rfl, hb⟩; have HB1 := Aside0.mk hb; clear hb)
      go_ret
      exact ⟨rfl, HB1.out⟩
    · have d2 : decide ((80 : Int) < (t.size : Int)) = false := decide_eq_false ht
      have d2N : decide (80 < t.size) = false := decide_eq_false (by omega)
      have HS := Aside0.mk (show s.size ≤ 1000000 by omega)
      have HT := Aside0.mk (show t.size ≤ 1000000 by omega)
      obtain ⟨q, hq⟩ : ∃ q, strOfNums (quoteL (bytesOf s)) = q := ⟨_, rfl⟩
      have HQ := Aside0.mk hq
      have HQS := Aside0.mk (show q.size ≤ 100 by rw [← hq, str_size]; have := quoteL_len (bytesOf s); rw [bytesOf_length] at this; omega)
      have HQP := Aside0.mk (show pat (bytesOf q) = some (ones (bytesOf s)) by rw [← hq, bytes_str _ (quoteL_in (bytesOf_in s))]; exact pat_quote _)
      have HM1 := Aside0.mk (show mtB (ones (bytesOf s)) (bytesOf s) = true by rw [mtB_ones]; simp)
      have HPX := Aside0.mk (show strOfNums (prefL (ones (bytesOf s))) = s by rw [pref_ones, str_bytes])
      have hm2 := mtB_ones s t
      clear hs ht h0 h1 hq
      cases hb : (s.toList == t.toList) with
      | false =>
        rw [hb] at hm2
        have HM2 := Aside0.mk hm2
        clear hm2
        go_enter Try.func6, Try.ntmps6
        go_wp2_with (first | (go_at_call 13; refine (prefix31_calls g _ _ _ HG7.out).mono ?_; rw [HPX.out]; rintro e w8 ⟨rfl, hb⟩; have HB8 := Aside0.mk (below_step HB7.out hb); clear hb) | (go_at_call 10; have hq := HB6.out; clear hq; refine (match31_calls g _ _ t _ HG6.out HT.out).mono ?_; rw [HM2.out]; rintro e w7 ⟨rfl, hb⟩; have HB7 := Aside0.mk (below_step HB6.out hb); have HG7 := Aside0.mk (HG6.out.below hb); clear hb) | (go_at_call 10; refine (match31_calls g _ _ s _ HG5.out HS.out).mono ?_; rw [HM1.out]; rintro e w6 ⟨rfl, hb⟩; have HB6 := Aside0.mk (below_step HB5.out hb); have HG6 := Aside0.mk (HG5.out.below hb); clear hb) | (go_at_call 20; refine (rquote_calls s HS.out _).mono ?_; rw [HQ.out]; rintro e w5 ⟨rfl, hb⟩; have HB5 := Aside0.mk (below_step HB4.out hb); have HG5 := Aside0.mk (HG4.out.below hb); clear hb) | (go_at_call 19; have hq := HB3.out; clear hq; refine (quote_calls s _ HS.out).mono ?_; rw [HQ.out]; rintro e w4 ⟨rfl, hb⟩; have HB4 := Aside0.mk (below_step HB3.out hb); have HG4 := Aside0.mk (HG3.out.below hb); clear hb) | (go_at_call 9; refine (parse_ok HQS.out HQP.out _).mono ?_; rintro e w3 ⟨g, rfl, hg, hb⟩; have HB3 := Aside0.mk (below_step HB2.out hb); have HG3 := Aside0.mk hg; clear hg hb) | (go_at_call 19; refine (quote_calls s _ HS.out).mono ?_; rw [HQ.out]; rintro e w2 ⟨rfl, hb⟩; have HB2 := Aside0.mk (below_step HB1.out hb); clear hb) | (go_at_call 8; refine (awake31_calls _).mono ?_; rintro e w1 ⟨rfl, hb⟩; have HB1 := Aside0.mk hb; clear hb))
        go_ret
        exact ⟨by first | rfl | simp, HB8.out⟩
      | true =>
        rw [hb] at hm2
        have HM2 := Aside0.mk hm2
        clear hm2
        go_enter Try.func6, Try.ntmps6
        go_wp2_with (first | (go_at_call 13; refine (prefix31_calls g _ _ _ HG7.out).mono ?_; rw [HPX.out]; rintro e w8 ⟨rfl, hb⟩; have HB8 := Aside0.mk (below_step HB7.out hb); clear hb) | (go_at_call 10; have hq := HB6.out; clear hq; refine (match31_calls g _ _ t _ HG6.out HT.out).mono ?_; rw [HM2.out]; rintro e w7 ⟨rfl, hb⟩; have HB7 := Aside0.mk (below_step HB6.out hb); have HG7 := Aside0.mk (HG6.out.below hb); clear hb) | (go_at_call 10; refine (match31_calls g _ _ s _ HG5.out HS.out).mono ?_; rw [HM1.out]; rintro e w6 ⟨rfl, hb⟩; have HB6 := Aside0.mk (below_step HB5.out hb); have HG6 := Aside0.mk (HG5.out.below hb); clear hb) | (go_at_call 20; refine (rquote_calls s HS.out _).mono ?_; rw [HQ.out]; rintro e w5 ⟨rfl, hb⟩; have HB5 := Aside0.mk (below_step HB4.out hb); have HG5 := Aside0.mk (HG4.out.below hb); clear hb) | (go_at_call 19; have hq := HB3.out; clear hq; refine (quote_calls s _ HS.out).mono ?_; rw [HQ.out]; rintro e w4 ⟨rfl, hb⟩; have HB4 := Aside0.mk (below_step HB3.out hb); have HG4 := Aside0.mk (HG3.out.below hb); clear hb) | (go_at_call 9; refine (parse_ok HQS.out HQP.out _).mono ?_; rintro e w3 ⟨g, rfl, hg, hb⟩; have HB3 := Aside0.mk (below_step HB2.out hb); have HG3 := Aside0.mk hg; clear hg hb) | (go_at_call 19; refine (quote_calls s _ HS.out).mono ?_; rw [HQ.out]; rintro e w2 ⟨rfl, hb⟩; have HB2 := Aside0.mk (below_step HB1.out hb); clear hb) | (go_at_call 8; refine (awake31_calls _).mono ?_; rintro e w1 ⟨rfl, hb⟩; have HB1 := Aside0.mk hb; clear hb))
        go_ret
        exact ⟨by first | rfl | simp, HB8.out⟩
end Go.Proofs.Ytbnlfiklkddolaa.Sep
