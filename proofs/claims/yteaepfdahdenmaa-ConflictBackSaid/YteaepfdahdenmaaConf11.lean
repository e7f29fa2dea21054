/- The walk of the law ConflictBack. Printed by a program of this session. Conditions: the bounds of the statement. -/
import Derived.Test.YteaepfdahdenmaaConf10
namespace Go.Proofs.Yteaepfdahdenmaa.Sep
set_option linter.unusedSimpArgs false
set_option linter.unusedVariables false
open Go.RowKit Go.Proofs.Yteaepfdahdenmaa.PCore Go.Proofs.Yteaepfdahdenmaa.Plain Go.Proofs.YteaepfdahdenmaaW.PrintWords Go.Proofs.YteaepfdahdenmaaW.PrintLast Go.Proofs.YteaepfdahdenmaaW.PrintMore
open Go.Proofs.Yteaepfdahdenmaa.PDat (S44 k44 S46 k46)
set_option maxHeartbeats 16000000 in
set_option maxRecDepth 100000 in
theorem conflictBack_walk (A0 : Option Addr) (n0 : Nat) (l : List S46) (A1 : Option Addr) (n1 : Nat) (b : List Int) (W : World)
    (hC0 : Kd.C k46 W A0 l.length l) (hn0 : l.length ≤ n0) (hm0 : l.length ≤ maxLen) (hw0 : ∀ x ∈ l, ok46 x)
    (hC1 : Kd.C (Kd.int .u8) W A1 b.length b) (hc1 : b.length ≤ n1) (hm1 : b.length ≤ maxLen) (hw1 : ∀ x ∈ b, (Lit.int .u8 x).wf = true) :
    Calls Try.prog 4 #[.slice A0 l.length n0, .slice A1 b.length n1] W fun e W1 => e = .returned (.bool true) ∧ Below W.heap.size W W1 := by
  have hm0' : l.length ≤ 9223372036854775807 := hm0
  have HA := Aside0.mk (fun w => awake13_calls w)
  have HL0 := Aside0.mk (fun w (hb : Below W.heap.size W w) => light_calls A0 n0 l w (Kd.C_below hC0 hb) hn0 hm0')
  have HP0 := Aside0.mk (fun w (hb : Below W.heap.size W w) => putB A0 n0 l w (Kd.C_below hC0 hb) hm0')
  have HC0 := Aside0.mk hC0
  have HN0 := Aside0.mk hn0
  have HC1 := Aside0.mk hC1
  have HNb := Aside0.mk hc1
  cases hf : lightL l with
  | false =>
    clear hC0 hn0 hm0 hw0 hC1 hc1 hm1 hw1 hm0'
    go_enter Try.func4, Try.ntmps4
    go_wp2_with (first | (go_at_call 5; refine (HA.out _).mono ?_; rintro e w1 ⟨rfl, hb⟩; have HB1 := Aside0.mk hb; clear hb) | (go_at_call 6; refine (HL0.out _ HB1.out).mono ?_; rw [hf]; rintro e w2 ⟨rfl, hb⟩; have HB2 := Aside0.mk (below_step HB1.out hb); clear hb))
    go_ret
    exact ⟨rfl, HB2.out⟩
  | true =>
    by_cases hb : (2000 : Int) < (b.length : Int)
    · have hb' : decide ((2000 : Int) < (b.length : Int)) = true := decide_eq_true hb
      clear hC0 hn0 hm0 hw0 hC1 hc1 hm1 hw1 hm0' hb
      go_enter Try.func4, Try.ntmps4
      go_wp2_with (first | (go_at_call 5; refine (HA.out _).mono ?_; rintro e w1 ⟨rfl, hb⟩; have HB1 := Aside0.mk hb; clear hb) | (go_at_call 6; refine (HL0.out _ HB1.out).mono ?_; rw [hf]; rintro e w2 ⟨rfl, hb⟩; have HB2 := Aside0.mk (below_step HB1.out hb); clear hb))
      go_ret
      exact ⟨rfl, HB2.out⟩
    · have hb' : decide ((2000 : Int) < (b.length : Int)) = false := decide_eq_false hb
      have HFB := Aside0.mk (show Fine (b, false) from ⟨fun x hx => of_wf_u8 (hw1 x hx), by show b.length ≤ 1000000; omega, fun h => by simp at h⟩)
      have HLS := Aside0.mk (show l.length ≤ 140737488355328 by simp only [lightL, Bool.and_eq_true, decide_eq_true_eq] at hf; omega)
      have HOC := Aside0.mk (ofK_cases HFB.out)
      clear hC0 hn0 hm0 hw0 hC1 hc1 hm1 hw1 hm0' hb
      by_cases he : putE l = 0
      · have HE := Aside0.mk he
        have HOF := Aside0.mk (ofK_put he)
        clear he
        rcases HOC.out with hm | ⟨m, hm, hme, hmp, hml⟩
        · obtain ⟨m, hm'⟩ : ∃ m : List S46, m = [] := ⟨_, rfl⟩
          rw [← hm'] at hm
          have HM := Aside0.mk hm
          clear hm HOC
          go_enter Try.func4, Try.ntmps4
          go_wp2_with (first | (go_at_call 5; refine (HA.out _).mono ?_; rintro e w1 ⟨rfl, hb⟩; have HB1 := Aside0.mk hb; clear hb) | (go_at_call 6; refine (HL0.out _ HB1.out).mono ?_; rw [hf]; rintro e w2 ⟨rfl, hb⟩; have HB2 := Aside0.mk (below_step HB1.out hb); clear hb) | (go_at_call 7; refine (HP0.out _ HB2.out).mono ?_; rw [HE.out]; rintro e w3 ⟨B3, m3, rfl, hm3, hC3, hb⟩; have HC3 := Aside0.mk hC3; have HB3 := Aside0.mk (below_step HB2.out hb); clear hb hC3 hm3) | (go_at_call 9; have hq := HB6.out; clear hq; refine (ofB _ _ b m _ _ (Kd.C_below HC1.out HB6.out) HFB.out HM.out).mono ?_; rintro e w7 ⟨B7, n7, rfl, hn7, hC7, hb⟩; have HC7 := Aside0.mk hC7; have HB7 := Aside0.mk (below_step HB6.out hb); clear hb hC7 hn7) | (go_at_call 9; refine (ofB _ _ _ l 0 _ HC3.out putL_fine HOF.out).mono ?_; rintro e w4 ⟨B4, n4, rfl, hn4, hC4, hb⟩; have HC4 := Aside0.mk hC4; have HN4 := Aside0.mk hn4; have HB4 := Aside0.mk (below_step HB3.out hb); clear hb hC4 hn4) | (go_at_call 13; refine (sameL_calls B4 n4 l A0 n0 l _ HC4.out HN4.out (Kd.C_below HC0.out HB4.out) HN0.out HLS.out).mono ?_; rw [oneL_self]; rintro e w6 ⟨rfl, hb⟩; have HB6 := Aside0.mk (below_step HB4.out hb); clear hb))
          go_ret
          exact ⟨rfl, HB7.out⟩
        · have HM := Aside0.mk hm
          have HME := Aside0.mk hme
          have HMP := Aside0.mk hmp
          have HML := Aside0.mk hml
          clear hm hme hmp hml HOC
          go_enter Try.func4, Try.ntmps4
          go_wp2_with (first | (go_at_call 5; refine (HA.out _).mono ?_; rintro e w1 ⟨rfl, hb⟩; have HB1 := Aside0.mk hb; clear hb) | (go_at_call 6; refine (HL0.out _ HB1.out).mono ?_; rw [hf]; rintro e w2 ⟨rfl, hb⟩; have HB2 := Aside0.mk (below_step HB1.out hb); clear hb) | (go_at_call 7; have hq := HB7.out; clear hq; refine (putB B7 n7 m _ HC7.out (by have := HML.out; omega)).mono ?_; rw [HME.out, HMP.out]; rintro e w8 ⟨B8, m8, rfl, hm8, hC8, hb⟩; have HB8 := Aside0.mk (below_step HB7.out hb); have hs1 := Kd.C_string (P := Try.prog) (A := B8) (c := m8) Try.underlying23 Try.underlying5 Try.underlying9 hC8; have hs2 := Kd.C_string (P := Try.prog) (A := A1) (c := n1) Try.underlying23 Try.underlying5 Try.underlying9 (Kd.C_below HC1.out HB8.out); clear hb hC8 hm8) | (go_at_call 7; refine (HP0.out _ HB2.out).mono ?_; rw [HE.out]; rintro e w3 ⟨B3, m3, rfl, hm3, hC3, hb⟩; have HC3 := Aside0.mk hC3; have HB3 := Aside0.mk (below_step HB2.out hb); clear hb hC3 hm3) | (go_at_call 9; have hq := HB6.out; clear hq; refine (ofB _ _ b m _ _ (Kd.C_below HC1.out HB6.out) HFB.out HM.out).mono ?_; rintro e w7 ⟨B7, n7, rfl, hn7, hC7, hb⟩; have HC7 := Aside0.mk hC7; have HB7 := Aside0.mk (below_step HB6.out hb); clear hb hC7 hn7) | (go_at_call 9; refine (ofB _ _ _ l 0 _ HC3.out putL_fine HOF.out).mono ?_; rintro e w4 ⟨B4, n4, rfl, hn4, hC4, hb⟩; have HC4 := Aside0.mk hC4; have HN4 := Aside0.mk hn4; have HB4 := Aside0.mk (below_step HB3.out hb); clear hb hC4 hn4) | (go_at_call 13; refine (sameL_calls B4 n4 l A0 n0 l _ HC4.out HN4.out (Kd.C_below HC0.out HB4.out) HN0.out HLS.out).mono ?_; rw [oneL_self]; rintro e w6 ⟨rfl, hb⟩; have HB6 := Aside0.mk (below_step HB4.out hb); clear hb))
          go_ret
          exact ⟨rfl, HB8.out⟩
      · have he' : (putE l == 0) = false := beq_eq_false_iff_ne.mpr he
        clear he
        rcases HOC.out with hm | ⟨m, hm, hme, hmp, hml⟩
        · obtain ⟨m, hm'⟩ : ∃ m : List S46, m = [] := ⟨_, rfl⟩
          rw [← hm'] at hm
          have HM := Aside0.mk hm
          clear hm HOC
          go_enter Try.func4, Try.ntmps4
          go_wp2_with (first | (go_at_call 5; refine (HA.out _).mono ?_; rintro e w1 ⟨rfl, hb⟩; have HB1 := Aside0.mk hb; clear hb) | (go_at_call 6; refine (HL0.out _ HB1.out).mono ?_; rw [hf]; rintro e w2 ⟨rfl, hb⟩; have HB2 := Aside0.mk (below_step HB1.out hb); clear hb) | (go_at_call 7; refine (HP0.out _ HB2.out).mono ?_; rintro e w3 ⟨B3, m3, rfl, hm3, hC3, hb⟩; have HC3 := Aside0.mk hC3; have HB3 := Aside0.mk (below_step HB2.out hb); clear hb hC3 hm3) | (go_at_call 9; have hq := HB3.out; clear hq; refine (ofB _ _ b m _ _ (Kd.C_below HC1.out HB3.out) HFB.out HM.out).mono ?_; rintro e w7 ⟨B7, n7, rfl, hn7, hC7, hb⟩; have HC7 := Aside0.mk hC7; have HB7 := Aside0.mk (below_step HB3.out hb); clear hb hC7 hn7))
          go_ret
          exact ⟨rfl, HB7.out⟩
        · have HM := Aside0.mk hm
          have HME := Aside0.mk hme
          have HMP := Aside0.mk hmp
          have HML := Aside0.mk hml
          clear hm hme hmp hml HOC
          go_enter Try.func4, Try.ntmps4
          go_wp2_with (first | (go_at_call 5; refine (HA.out _).mono ?_; rintro e w1 ⟨rfl, hb⟩; have HB1 := Aside0.mk hb; clear hb) | (go_at_call 6; refine (HL0.out _ HB1.out).mono ?_; rw [hf]; rintro e w2 ⟨rfl, hb⟩; have HB2 := Aside0.mk (below_step HB1.out hb); clear hb) | (go_at_call 7; have hq := HB7.out; clear hq; refine (putB B7 n7 m _ HC7.out (by have := HML.out; omega)).mono ?_; rw [HME.out, HMP.out]; rintro e w8 ⟨B8, m8, rfl, hm8, hC8, hb⟩; have HB8 := Aside0.mk (below_step HB7.out hb); have hs1 := Kd.C_string (P := Try.prog) (A := B8) (c := m8) Try.underlying23 Try.underlying5 Try.underlying9 hC8; have hs2 := Kd.C_string (P := Try.prog) (A := A1) (c := n1) Try.underlying23 Try.underlying5 Try.underlying9 (Kd.C_below HC1.out HB8.out); clear hb hC8 hm8) | (go_at_call 7; refine (HP0.out _ HB2.out).mono ?_; rintro e w3 ⟨B3, m3, rfl, hm3, hC3, hb⟩; have HC3 := Aside0.mk hC3; have HB3 := Aside0.mk (below_step HB2.out hb); clear hb hC3 hm3) | (go_at_call 9; have hq := HB3.out; clear hq; refine (ofB _ _ b m _ _ (Kd.C_below HC1.out HB3.out) HFB.out HM.out).mono ?_; rintro e w7 ⟨B7, n7, rfl, hn7, hC7, hb⟩; have HC7 := Aside0.mk hC7; have HB7 := Aside0.mk (below_step HB3.out hb); clear hb hC7 hn7))
          go_ret
          exact ⟨rfl, HB8.out⟩
end Go.Proofs.Yteaepfdahdenmaa.Sep
