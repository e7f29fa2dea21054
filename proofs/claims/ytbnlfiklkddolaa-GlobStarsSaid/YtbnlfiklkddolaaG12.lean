/- The walk of the law GlobStars. Printed by gen12.py. Conditions: none beyond the statement's own. -/
import Derived.Test.YtbnlfiklkddolaaG10
namespace Go.Proofs.Ytbnlfiklkddolaa.Sep
set_option linter.unusedSimpArgs false
set_option linter.unusedVariables false
open Go.RowKit Go.Proofs.Ytbnlfiklkddolaa.PCore Go.Proofs.Ytbnlfiklkddolaa.Plain Go.Proofs.YtbnlfiklkddolaaW.PrintWords Go.Proofs.YtbnlfiklkddolaaW.PrintLast Go.Proofs.YtbnlfiklkddolaaW.PrintMore
/-- Whether a text is within another one, at one of the first i places. -/
def inB (s t : ByteArray) (i : Nat) : Bool := (List.range i).any fun j => (t.extract j (j + s.size)).toList == s.toList
theorem inB_succ (s t : ByteArray) (i : Nat) : inB s t (i + 1) = (inB s t i || ((t.extract i (i + s.size)).toList == s.toList)) := by simp [inB, List.range_succ]
theorem inB_mt (s t : ByteArray) (i : Nat) (h1 : ∀ j, j < i → j + s.size ≤ t.size) (h2 : t.size < i + s.size) : mtB (.many :: (ones (bytesOf s) ++ [.many])) (bytesOf t) = inB s t i := by
  have key : ∀ j, j + s.size ≤ t.size → (((bytesOf t).drop j).take (bytesOf s).length = bytesOf s ↔ t.extract j (j + s.size) = s) := fun j hj => by
    have e : ((bytesOf t).drop j).take (bytesOf s).length = bytesOf (t.extract j (j + s.size)) := by
      rw [bytes_extract, bytesOf_length, List.drop_take, show j + s.size - j = s.size by omega]
    rw [e]
    exact ⟨bytesOf_one, fun h => by rw [h]⟩
  cases hb : inB s t i with
  | true =>
    simp only [inB, List.any_eq_true, List.mem_range, beq_iff_eq] at hb
    obtain ⟨j, hj, he⟩ := hb
    have hjs := h1 j hj
    exact mtB_t ((mt_star _ _).2 ⟨j, by rw [bytesOf_length, bytesOf_length]; exact hjs, (key j hjs).2 (text_one.1 he)⟩)
  | false =>
    refine mtB_f (fun h => ?_)
    obtain ⟨j, hj, he⟩ := (mt_star _ _).1 h
    rw [bytesOf_length, bytesOf_length] at hj
    have : inB s t i = true := by
      simp only [inB, List.any_eq_true, List.mem_range, beq_iff_eq]
      exact ⟨j, by omega, text_one.2 ((key j hj).1 he)⟩
    rw [hb] at this
    cases this
set_option maxHeartbeats 16000000 in
set_option maxRecDepth 100000 in
theorem globStars_walk (s t : ByteArray) (W : World) (h0 : s.size ≤ 140737488351232) (h1 : t.size ≤ 140737488351232) :
    Calls Try.prog 7 #[.string s, .string t] W fun e W1 => e = .returned (.bool true) ∧ Below W.heap.size W W1 := by
  by_cases hs : (40 : Int) < (s.size : Int)
  · have d1 : decide ((40 : Int) < (s.size : Int)) = true := decide_eq_true hs
    have d1N : decide (40 < s.size) = true := decide_eq_true (by omega)
    clear hs h0 h1
    go_enter Try.func7, Try.ntmps7
    go_wp2_with (go_at_call 8; refine (awake31_calls _).mono ?_; rintro e w1 ⟨rfl, hb⟩; have HB1 := Aside0.mk hb; clear hb)
    go_ret
    exact ⟨rfl, HB1.out⟩
  · have d1 : decide ((40 : Int) < (s.size : Int)) = false := decide_eq_false hs
    have d1N : decide (40 < s.size) = false := decide_eq_false (by omega)
    by_cases ht : (80 : Int) < (t.size : Int)
    · have d2 : decide ((80 : Int) < (t.size : Int)) = true := decide_eq_true ht
      have d2N : decide (80 < t.size) = true := decide_eq_true (by omega)
      clear hs ht h0 h1
      go_enter Try.func7, Try.ntmps7
      go_wp2_with (go_at_call 8; refine (awake31_calls _).mono ?_; rintro e w1 ⟨rfl, hb⟩; have HB1 := Aside0.mk hb; clear hb)
      go_ret
      exact ⟨rfl, HB1.out⟩
    · have d2 : decide ((80 : Int) < (t.size : Int)) = false := decide_eq_false ht
      have d2N : decide (80 < t.size) = false := decide_eq_false (by omega)
      have HS := Aside0.mk (show s.size ≤ 1000000 by omega)
      have HT := Aside0.mk (show t.size ≤ 1000000 by omega)
      obtain ⟨q, hq⟩ : ∃ q, strOfNums (quoteL (bytesOf s)) = q := ⟨_, rfl⟩
      have HQ := Aside0.mk hq
      have hqz : q.size ≤ 80 := by rw [← hq, str_size]; have := quoteL_len (bytesOf s); rw [bytesOf_length] at this; omega
      have HQZ := Aside0.mk hqz
      have e1 : (⟨#[42]⟩ : ByteArray).size + q.size ≤ 9223372036854775807 := by have : (⟨#[42]⟩ : ByteArray).size = 1 := rfl; omega
      have e3 : ((⟨#[42]⟩ : ByteArray) ++ q).size = 1 + q.size := ByteArray.size_append
      have e2 : ((⟨#[42]⟩ : ByteArray) ++ q).size + 1 ≤ 9223372036854775807 := by omega
      have e4 : 1 + q.size ≤ 9223372036854775807 := by omega
      have e5 : 1 + q.size + 1 ≤ 9223372036854775807 := by omega
      have HQS := Aside0.mk (show ((⟨#[42]⟩ : ByteArray) ++ q ++ (⟨#[42]⟩ : ByteArray)).size ≤ 100 by rw [ByteArray.size_append, e3]; show 1 + q.size + 1 ≤ 100; omega)
      have HQP := Aside0.mk (show pat (bytesOf ((⟨#[42]⟩ : ByteArray) ++ q ++ (⟨#[42]⟩ : ByteArray))) = some (.many :: (ones (bytesOf s) ++ [.many])) by rw [bytesOf_append, bytesOf_append, ← hq, bytes_str _ (quoteL_in (bytesOf_in s))]; exact pat_star _)
      clear hs ht h0 h1 hq hqz e3
      go_enter Try.func7, Try.ntmps7
      go_upto_region 8 with (first | (go_at_call 9; refine (parse_ok HQS.out HQP.out _).mono ?_; rintro e w3 ⟨g, rfl, hg, hb⟩; have HB3 := Aside0.mk (below_step HB2.out hb); have HG3 := Aside0.mk hg; clear hg hb) | (go_at_call 19; refine (quote_calls s _ HS.out).mono ?_; rw [HQ.out]; rintro e w2 ⟨rfl, hb⟩; have HB2 := Aside0.mk (below_step HB1.out hb); clear hb) | (go_at_call 8; refine (awake31_calls _).mono ?_; rintro e w1 ⟨rfl, hb⟩; have HB1 := Aside0.mk hb; clear hb))
      clear e1 e2 e4 e5
      go_loopg [7, 8] (t.size + 1) (fun kq v7 v8 w' => ∃ i : Nat, v7 = .bool (inB s t i) ∧ v8 = .int .i64 (i : Int) ∧ Aside0 (i ≤ t.size + 1 ∧ kq = t.size + 1 - i) ∧ Aside0 (∀ j, j < i → j + s.size ≤ t.size) ∧ Aside0 (Below w3.heap.size w3 w'))
      case atStart => exact ⟨0, rfl, rfl, ⟨by omega, by omega⟩, ⟨fun j hj => by omega⟩, ⟨Below.refl _ _⟩⟩
      case round =>
        obtain ⟨i, rfl, rfl, HI, HJ, HBL⟩ := hrel
        have hws : wrap64 ((i : Int) + (s.size : Int)) = (i : Int) + (s.size : Int) := by have := HI.out; have := HS.out; have := HT.out; unfold wrap64; omega
        by_cases hlt : i + s.size ≤ t.size
        · have f1 : decide ((i : Int) + (s.size : Int) ≤ (t.size : Int)) = true := decide_eq_true (by omega)
          have f2 : (i : Int) + (s.size : Int) ≤ (t.size : Int) := by omega
          have f3 : (0 : Int) ≤ (i : Int) + (s.size : Int) := by omega
          have f4 : (i : Int) ≤ (i : Int) + (s.size : Int) := by omega
          have f5 : ((i : Int) + (s.size : Int)).toNat = i + s.size := by omega
          have hwi : wrap64 ((i : Int) + 1) = ((i + 1 : Nat) : Int) := by have := HT.out; unfold wrap64; omega
          have HSU := Aside0.mk (inB_succ s t i)
          have HJ2 := Aside0.mk (show ∀ j, j < i + 1 → j + s.size ≤ t.size from fun j hj => by rcases Nat.lt_or_eq_of_le (Nat.lt_succ_iff.1 hj) with h | rfl; exact HJ.out j h; exact hlt)
          cases hb : inB s t i with
          | true =>
            rw [hb, Bool.true_or] at HSU
            go_wp2
            go_roundg (t.size + 1 - (i + 1))
            case measure => have := HI.out; omega
            case rel => exact ⟨i + 1, by rw [HSU.out], by first | rfl | (rw [hwi]; done) | simp, ⟨by omega, rfl⟩, HJ2, HBL⟩
          | false =>
            rw [hb, Bool.false_or] at HSU
            go_wp2
            go_roundg (t.size + 1 - (i + 1))
            case measure => have := HI.out; omega
            case rel => exact ⟨i + 1, by rw [HSU.out], by first | rfl | (rw [hwi]; done) | simp, ⟨by omega, rfl⟩, HJ2, HBL⟩
        · have f1 : decide ((i : Int) + (s.size : Int) ≤ (t.size : Int)) = false := decide_eq_false (by omega)
          have f2 : ¬ (i : Int) + (s.size : Int) ≤ (t.size : Int) := by omega
          have hm1 := inB_mt s t i HJ.out (by omega)
          cases hb : inB s t i with
          | false =>
            rw [hb] at hm1
            have HM1 := Aside0.mk hm1
            clear hm1
            go_wp2_with (first | (go_at_call 15; refine (string31_none _).mono ?_; rintro e w7 ⟨rfl, hb⟩; have HB7 := Aside0.mk (below_step HB6.out hb); clear hb) | (go_at_call 13; refine (prefix31_none _).mono ?_; rintro e w6 ⟨rfl, hb⟩; have HB6 := Aside0.mk (below_step HB5.out hb); clear hb) | (go_at_call 10; have hq := HB4.out; clear hq; refine (match31_none t _).mono ?_; rintro e w5 ⟨rfl, hb⟩; have HB5 := Aside0.mk (below_step HB4.out hb); clear hb) | (go_at_call 10; refine (match31_calls g _ _ t _ (HG3.out.below HBL.out) HT.out).mono ?_; rw [HM1.out]; rintro e w4 ⟨rfl, hb⟩; have HB4 := Aside0.mk (below_step (below_step HB3.out HBL.out) hb); clear hb))
            go_ret
            exact ⟨by first | rfl | simp, HB7.out⟩
          | true =>
            rw [hb] at hm1
            have HM1 := Aside0.mk hm1
            clear hm1
            go_wp2_with (first | (go_at_call 15; refine (string31_none _).mono ?_; rintro e w7 ⟨rfl, hb⟩; have HB7 := Aside0.mk (below_step HB6.out hb); clear hb) | (go_at_call 13; refine (prefix31_none _).mono ?_; rintro e w6 ⟨rfl, hb⟩; have HB6 := Aside0.mk (below_step HB5.out hb); clear hb) | (go_at_call 10; have hq := HB4.out; clear hq; refine (match31_none t _).mono ?_; rintro e w5 ⟨rfl, hb⟩; have HB5 := Aside0.mk (below_step HB4.out hb); clear hb) | (go_at_call 10; refine (match31_calls g _ _ t _ (HG3.out.below HBL.out) HT.out).mono ?_; rw [HM1.out]; rintro e w4 ⟨rfl, hb⟩; have HB4 := Aside0.mk (below_step (below_step HB3.out HBL.out) hb); clear hb))
            go_ret
            exact ⟨by first | rfl | simp, HB7.out⟩
end Go.Proofs.Ytbnlfiklkddolaa.Sep
