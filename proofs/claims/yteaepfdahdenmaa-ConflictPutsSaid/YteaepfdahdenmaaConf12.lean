/- The walk of the law ConflictPuts. Printed by a program of this session. Conditions: the bounds of the statement. -/
import Derived.Test.YteaepfdahdenmaaConf10
namespace Go.Proofs.Yteaepfdahdenmaa.Sep
set_option linter.unusedSimpArgs false
set_option linter.unusedVariables false
open Go.RowKit Go.Proofs.Yteaepfdahdenmaa.PCore Go.Proofs.Yteaepfdahdenmaa.Plain Go.Proofs.YteaepfdahdenmaaW.PrintWords Go.Proofs.YteaepfdahdenmaaW.PrintLast Go.Proofs.YteaepfdahdenmaaW.PrintMore
open Go.Proofs.Yteaepfdahdenmaa.PDat (S44 k44 S46 k46)
set_option maxHeartbeats 16000000 in
set_option maxRecDepth 100000 in
theorem conflictPuts_walk (A0 : Option Addr) (n0 : Nat) (l : List S46) (A1 : Option Addr) (n1 : Nat) (b : List Int) (W : World)
    (hC0 : Kd.C k46 W A0 l.length l) (hn0 : l.length ≤ n0) (hm0 : l.length ≤ maxLen) (hw0 : ∀ x ∈ l, ok46 x)
    (hC1 : Kd.C (Kd.int .u8) W A1 b.length b) (hc1 : b.length ≤ n1) (hm1 : b.length ≤ maxLen) (hw1 : ∀ x ∈ b, (Lit.int .u8 x).wf = true) :
    Calls Try.prog 3 #[.slice A0 l.length n0, .slice A1 b.length n1] W fun e W1 => e = .returned (.bool true) ∧ Below W.heap.size W W1 := by
  have hm0' : l.length ≤ 9223372036854775807 := hm0
  have HA := Aside0.mk (fun w => awake13_calls w)
  have HL0 := Aside0.mk (fun w (hb : Below W.heap.size W w) => light_calls A0 n0 l w (Kd.C_below hC0 hb) hn0 hm0')
  have HP0 := Aside0.mk (fun w (hb : Below W.heap.size W w) => putB A0 n0 l w (Kd.C_below hC0 hb) hm0')
  have HC0 := Aside0.mk hC0
  have HN0 := Aside0.mk hn0
  have HC1 := Aside0.mk hC1
  have HNb := Aside0.mk hc1
  have HP1 := Aside0.mk (fun w (hb : Below W.heap.size W w) => putRB A0 n0 l w (Kd.C_below hC0 hb) hm0')
  have HR0 := Aside0.mk (fun w (hb : Below W.heap.size W w) => right13_calls A0 n0 l w (Kd.C_below hC0 hb) hm0')
  have HR1 := Aside0.mk (fun w (hb : Below W.heap.size W w) => refClashes_calls A0 n0 l w (Kd.C_below hC0 hb) hm0')
  cases hf : lightL l with
  | false =>
    clear hC0 hn0 hm0 hw0 hC1 hc1 hm1 hw1 hm0'
    go_enter Try.func3, Try.ntmps3
    go_wp2_with (first | (go_at_call 5; refine (HA.out _).mono ?_; rintro e w1 ⟨rfl, hb⟩; have HB1 := Aside0.mk hb; clear hb) | (go_at_call 6; refine (HL0.out _ HB1.out).mono ?_; rw [hf]; rintro e w2 ⟨rfl, hb⟩; have HB2 := Aside0.mk (below_step HB1.out hb); clear hb))
    go_ret
    exact ⟨rfl, HB2.out⟩
  | true =>
    by_cases hb : (2000 : Int) < (b.length : Int)
    · have hb' : decide ((2000 : Int) < (b.length : Int)) = true := decide_eq_true hb
      clear hC0 hn0 hm0 hw0 hC1 hc1 hm1 hw1 hm0' hb
      go_enter Try.func3, Try.ntmps3
      go_wp2_with (first | (go_at_call 5; refine (HA.out _).mono ?_; rintro e w1 ⟨rfl, hb⟩; have HB1 := Aside0.mk hb; clear hb) | (go_at_call 6; refine (HL0.out _ HB1.out).mono ?_; rw [hf]; rintro e w2 ⟨rfl, hb⟩; have HB2 := Aside0.mk (below_step HB1.out hb); clear hb))
      go_ret
      exact ⟨rfl, HB2.out⟩
    · have hb' : decide ((2000 : Int) < (b.length : Int)) = false := decide_eq_false hb
      have HFB := Aside0.mk (show Fine (b, false) from ⟨fun x hx => of_wf_u8 (hw1 x hx), by show b.length ≤ 1000000; omega, fun h => by simp at h⟩)
      have HLS := Aside0.mk (show l.length ≤ 140737488355328 by simp only [lightL, Bool.and_eq_true, decide_eq_true_eq] at hf; omega)
      have HOC := Aside0.mk (ofK_cases HFB.out)
      clear hC0 hn0 hm0 hw0 hC1 hc1 hm1 hw1 hm0' hb
      have HML0 := ofK_len HFB.out
      obtain ⟨m, r, hm⟩ : ∃ m r, ofK b = (m, r) := ⟨_, _, rfl⟩
      rw [hm] at HML0
      have HML := Aside0.mk (show m.length ≤ 140737488355328 by simp only at HML0; omega)
      have HM := Aside0.mk hm
      clear HML0 hm HOC
      go_enter Try.func3, Try.ntmps3
      go_wp2_with (first | (go_at_call 5; refine (HA.out _).mono ?_; rintro e w1 ⟨rfl, hb⟩; have HB1 := Aside0.mk hb; clear hb) | (go_at_call 6; refine (HL0.out _ HB1.out).mono ?_; rw [hf]; rintro e w2 ⟨rfl, hb⟩; have HB2 := Aside0.mk (below_step HB1.out hb); clear hb) | (go_at_call 7; refine (HP0.out _ HB2.out).mono ?_; rintro e w3 ⟨B3, m3, rfl, hm3, hC3, hb⟩; have HC3 := Aside0.mk hC3; have HB3 := Aside0.mk (below_step HB2.out hb); clear hb hC3 hm3) | (go_at_call 8; refine (HP1.out _ HB3.out).mono ?_; rintro e w4 ⟨B4, m4, rfl, hm4, hC4, hb⟩; have HC4 := Aside0.mk hC4; have HC34 := Aside0.mk (Kd.C_below HC3.out hb); have HB4 := Aside0.mk (below_step HB3.out hb); clear hb hC4 hm4) | (go_at_call 9; refine (ofB _ _ b m r _ (Kd.C_below HC1.out HB4.out) HFB.out HM.out).mono ?_; rintro e w5 ⟨B5, n5, rfl, hn5, hC5, hb⟩; have HC5 := Aside0.mk hC5; have HN5 := Aside0.mk hn5; have HC45 := Aside0.mk (Kd.C_below HC4.out hb); have HC35 := Aside0.mk (Kd.C_below HC34.out hb); have HB5 := Aside0.mk (below_step HB4.out hb); clear hb hC5 hn5) | (go_at_call 10; refine (ofRB _ _ b m r _ (Kd.C_below HC1.out HB5.out) HNb.out HFB.out HM.out).mono ?_; rintro e w6 ⟨B6, n6, rfl, hn6, hC6, hb⟩; have HC6 := Aside0.mk hC6; have HN6 := Aside0.mk hn6; have HC46 := Aside0.mk (Kd.C_below HC45.out hb); have HC36 := Aside0.mk (Kd.C_below HC35.out hb); have HC56 := Aside0.mk (Kd.C_below HC5.out hb); have HB6 := Aside0.mk (below_step HB5.out hb); clear hb hC6 hn6) | (go_at_call 11; refine (HR0.out _ HB6.out).mono ?_; rintro e w7 ⟨rfl, hb⟩; have HC47 := Aside0.mk (Kd.C_below HC46.out hb); have HC37 := Aside0.mk (Kd.C_below HC36.out hb); have HC57 := Aside0.mk (Kd.C_below HC56.out hb); have HC67 := Aside0.mk (Kd.C_below HC6.out hb); have HB7 := Aside0.mk (below_step HB6.out hb); clear hb) | (go_at_call 12; refine (HR1.out _ HB7.out).mono ?_; rintro e w8 ⟨rfl, hb⟩; have hs1 := Kd.C_string (P := Try.prog) (A := B3) (c := m3) Try.underlying23 Try.underlying5 Try.underlying9 (Kd.C_below HC37.out hb); have hs2 := Kd.C_string (P := Try.prog) (A := B4) (c := m4) Try.underlying23 Try.underlying5 Try.underlying9 (Kd.C_below HC47.out hb); have HC58 := Aside0.mk (Kd.C_below HC57.out hb); have HC68 := Aside0.mk (Kd.C_below HC67.out hb); have HB8 := Aside0.mk (below_step HB7.out hb); clear hb) | (go_at_call 13; refine (sameL_calls B5 n5 m B6 n6 m _ HC58.out HN5.out HC68.out HN6.out HML.out).mono ?_; rw [oneL_self]; rintro e w9 ⟨rfl, hb⟩; have HB9 := Aside0.mk (below_step HB8.out hb); clear hb))
      go_ret
      exact ⟨by first | rfl | simp, HB9.out⟩
end Go.Proofs.Yteaepfdahdenmaa.Sep
