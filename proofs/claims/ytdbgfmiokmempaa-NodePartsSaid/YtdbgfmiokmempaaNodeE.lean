/- The walk of the law NodeSplits. Printed by gen14.py. Conditions: the bounds of the statement. -/
import Derived.Test.YtdbgfmiokmempaaNodeD
import Derived.Test.YtdbgfmiokmempaaOpenS
namespace Go.Proofs.Ytdbgfmiokmempaa.Sep
set_option linter.unusedSimpArgs false
set_option linter.unusedVariables false
open Go.RowKit Go.Proofs.Ytdbgfmiokmempaa.PCore Go.Proofs.Ytdbgfmiokmempaa.Plain Go.Proofs.YtdbgfmiokmempaaW.PrintWords Go.Proofs.YtdbgfmiokmempaaW.PrintLast Go.Proofs.YtdbgfmiokmempaaW.PrintMore
open Go.Proofs.Ytdbgfmiokmempaa.PDat (S27 k27 S60 k60)
open Ends (endsB)
theorem rows_len {α : Type} (E : α → Bool) : ∀ (row l : List α), (rowsL E row l).length ≤ l.length
  | _, [] => by simp [rowsL]
  | row, x :: l => by
    rw [rowsL]
    split
    · have := rows_len E [] l
      simp only [List.length_cons]
      omega
    · have := rows_len E (row ++ [x]) l
      simp only [List.length_cons]
      omega
set_option maxHeartbeats 16000000 in
set_option maxRecDepth 100000 in
theorem nodeSplits_walk (A0 : Option Addr) (c0 : Nat) (l : List S27) (lev : Int) (A1 : Option Addr) (c1 : Nat) (m : List S60) (s : ByteArray) (W : World)
    (hC0 : Kd.C k27 W A0 l.length l) (hn0 : l.length ≤ c0) (hm0 : l.length ≤ maxLen) (hw0 : ∀ x ∈ l, ok27 x) (hlev : (Lit.int .i64 lev).wf = true)
    (hC1 : Kd.C k60 W A1 m.length m) (hn1 : m.length ≤ c1) (hm1 : m.length ≤ maxLen) (hw1 : ∀ x ∈ m, ok60 x) (hs : s.size ≤ 140737488351232) :
    Calls Try.prog 4 #[.slice A0 l.length c0, .int .i64 lev, .slice A1 m.length c1, .string s] W fun e W1 => e = .returned (.bool true) ∧ Below W.heap.size W W1 := by
  have HA := Aside0.mk (fun w => awake9_calls w)
  have HC0 := Aside0.mk hC0
  have HN0 := Aside0.mk hn0
  have HC1 := Aside0.mk hC1
  have HN1 := Aside0.mk hn1
  clear hC0 hn0 hm0 hw0 hC1 hn1 hm1 hw1 hlev
  cases hli : lightE l with
  | false =>
    have HLI := Aside0.mk hli
    clear hli hs
    go_enter Try.func4, Try.ntmps4
    go_wp2_with (first | (go_at_call 7; refine (HA.out _).mono ?_; rintro e w1 ⟨rfl, hb⟩; have HB1 := Aside0.mk hb; clear hb) | (go_at_call 8; refine (light9_calls A0 c0 l _ (Kd.C_below HC0.out HB1.out) HN0.out).mono ?_; rw [HLI.out]; rintro e w2 ⟨rfl, hb⟩; have HB2 := Aside0.mk (below_step HB1.out hb); clear hb))
    go_ret
    exact ⟨rfl, HB2.out⟩
  | true =>
    have HLI := Aside0.mk hli
    cases hsm : smallN [] m with
    | false =>
      have HSM := Aside0.mk hsm
      clear hli hsm hs
      go_enter Try.func4, Try.ntmps4
      go_wp2_with (first | (go_at_call 7; refine (HA.out _).mono ?_; rintro e w1 ⟨rfl, hb⟩; have HB1 := Aside0.mk hb; clear hb) | (go_at_call 8; refine (light9_calls A0 c0 l _ (Kd.C_below HC0.out HB1.out) HN0.out).mono ?_; rw [HLI.out]; rintro e w2 ⟨rfl, hb⟩; have HB2 := Aside0.mk (below_step HB1.out hb); clear hb) | (go_at_call 12; refine (small9_calls 0 none 0 [] A1 c1 m _ (Kd.C_nil _ _) (by simp) (Kd.C_below HC1.out HB2.out) HN1.out).mono ?_; rw [HSM.out]; rintro e w3 ⟨rfl, hb⟩; have HB3 := Aside0.mk (below_step HB2.out hb); clear hb))
      go_ret
      exact ⟨rfl, HB3.out⟩
    | true =>
      have HSM := Aside0.mk hsm
      by_cases h3 : (300 : Int) < (s.size : Int)
      · have h3' : decide ((300 : Int) < (s.size : Int)) = true := decide_eq_true h3
        clear hli hsm hs h3
        go_enter Try.func4, Try.ntmps4
        go_wp2_with (first | (go_at_call 7; refine (HA.out _).mono ?_; rintro e w1 ⟨rfl, hb⟩; have HB1 := Aside0.mk hb; clear hb) | (go_at_call 8; refine (light9_calls A0 c0 l _ (Kd.C_below HC0.out HB1.out) HN0.out).mono ?_; rw [HLI.out]; rintro e w2 ⟨rfl, hb⟩; have HB2 := Aside0.mk (below_step HB1.out hb); clear hb) | (go_at_call 12; refine (small9_calls 0 none 0 [] A1 c1 m _ (Kd.C_nil _ _) (by simp) (Kd.C_below HC1.out HB2.out) HN1.out).mono ?_; rw [HSM.out]; rintro e w3 ⟨rfl, hb⟩; have HB3 := Aside0.mk (below_step HB2.out hb); clear hb))
        go_ret
        exact ⟨rfl, HB3.out⟩
      · have h3' : decide ((300 : Int) < (s.size : Int)) = false := decide_eq_false h3
        obtain ⟨q1, q2⟩ := lightE_in hli
        obtain ⟨q3, q4, _⟩ := smallN_in hsm
        have HL0 := Aside0.mk (show l.length ≤ 1000000 by omega)
        have HL1 := Aside0.mk (show m.length ≤ 1000000 by omega)
        have HZ0 := Aside0.mk (show ∀ x ∈ l, x.f0.size ≤ 140737488355328 from fun x hx => by have := (q2 x hx).1; omega)
        have HZ1 := Aside0.mk (show ∀ x ∈ m, x.f0.size ≤ 140737488355328 from fun x hx => by have := q4 x hx; omega)
        have HRL := Aside0.mk (show (rowE l).length ≤ 1000 by have : (rowE l).length ≤ l.length := rows_len _ [] l; omega)
        have HRK := Aside0.mk (show (rowK lev m).length ≤ 1000 by have : (rowK lev m).length ≤ m.length := rows_len _ [] m; omega)
        clear hli hsm hs h3 q1 q2 q3 q4
        go_enter Try.func4, Try.ntmps4
        go_wp2_with (first | (go_at_call 7; refine (HA.out _).mono ?_; rintro e w1 ⟨rfl, hb⟩; have HB1 := Aside0.mk hb; clear hb) | (go_at_call 8; refine (light9_calls A0 c0 l _ (Kd.C_below HC0.out HB1.out) HN0.out).mono ?_; rw [HLI.out]; rintro e w2 ⟨rfl, hb⟩; have HB2 := Aside0.mk (below_step HB1.out hb); clear hb) | (go_at_call 12; refine (small9_calls 0 none 0 [] A1 c1 m _ (Kd.C_nil _ _) (by simp) (Kd.C_below HC1.out HB2.out) HN1.out).mono ?_; rw [HSM.out]; rintro e w3 ⟨rfl, hb⟩; have HB3 := Aside0.mk (below_step HB2.out hb); clear hb) | (go_at_call 10; refine (splitC_calls A0 c0 l _ (Kd.C_below HC0.out HB3.out) HN0.out HL0.out HZ0.out).mono ?_; rintro e w4 ⟨B4, n4, rfl, hn4, hC4, hb⟩; have HC4 := Aside0.mk hC4; have HB4 := Aside0.mk (below_step HB3.out hb); clear hb hC4 hn4) | (go_at_call 13; refine (rsplitC_calls A0 c0 l _ (Kd.C_below HC0.out HB4.out) HN0.out HL0.out HZ0.out).mono ?_; rintro e w5 ⟨B5, n5, rfl, hn5, hC5, hb⟩; have HC5 := Aside0.mk hC5; have HC45 := Aside0.mk (Kd.C_below HC4.out hb); have HB5 := Aside0.mk (below_step HB4.out hb); clear hb hC5 hn5) | (go_at_call 14; refine (groupC_calls lev A1 c1 m _ (Kd.C_below HC1.out HB5.out) HN1.out HL1.out HZ1.out).mono ?_; rintro e w6 ⟨B6, n6, rfl, hn6, hC6, hb⟩; have HC6 := Aside0.mk hC6; have HC46 := Aside0.mk (Kd.C_below HC45.out hb); have HC56 := Aside0.mk (Kd.C_below HC5.out hb); have HB6 := Aside0.mk (below_step HB5.out hb); clear hb hC6 hn6) | (go_at_call 15; refine (rgroupC_calls lev A1 c1 m _ (Kd.C_below HC1.out HB6.out) HN1.out HL1.out HZ1.out).mono ?_; rintro e w7 ⟨B7, n7, rfl, hn7, hC7, hb⟩; have HC7 := Aside0.mk hC7; have HC47 := Aside0.mk (Kd.C_below HC46.out hb); have HC57 := Aside0.mk (Kd.C_below HC56.out hb); have HC67 := Aside0.mk (Kd.C_below HC6.out hb); have HB7 := Aside0.mk (below_step HB6.out hb); clear hb hC7 hn7))
        generalize rowE l = R at HRL HC47 HC57
        generalize rowK lev m = K at HRK HC67 HC7
        go_loopg [55] R.length (fun kq v55 w' => ∃ i : Nat, v55 = .int .i64 i ∧ Aside0 (i ≤ R.length ∧ kq = R.length - i) ∧ Aside0 (Below w7.heap.size w7 w') ∧ Aside0 (Below W.heap.size W w'))
        case atStart => exact ⟨0, rfl, ⟨by omega, by omega⟩, ⟨Below.refl _ _⟩, ⟨HB7.out⟩⟩
        case round =>
          obtain ⟨i, rfl, HI, HBr, HBw⟩ := hrel
          by_cases hlt : i < R.length
          · obtain ⟨ad, Aa, ca, rfl, ka, la, Ka⟩ := at_row (Kd.C_below HC47.out HBr.out) i hlt rfl
            obtain ⟨ad2, Ab, cb, rfl, kb, lb, Kb⟩ := at_row (Kd.C_below HC57.out HBr.out) i hlt rfl
            have hlt' : (i : Int) < (R.length : Int) := by omega
            have HWI := Aside0.mk (show wrap64 ((i : Int) + 1) = ((i + 1 : Nat) : Int) by have := HRL.out; unfold wrap64; omega)
            have HS := Aside0.mk (fun n => sameE_calls Aa ca (R[i]) Ab cb (R[i]) (wr.drewN n) (Kd.C_drewN Ka n) la (Kd.C_drewN Kb n) lb)
            rw [oneL_self] at HS
            clear Ka Kb la lb
            generalize R[i] = x at ka kb HS
            go_wp2
            go_quiet ((go_at_call 11; exact Calls.quiet_of (HS.out _)))
            go_wp2
            go_roundg (R.length - (i + 1))
            case measure => have := HI.out; omega
            case rel => exact ⟨i + 1, by rw [HWI.out], ⟨by omega, rfl⟩, ⟨pw_below_drewN HBr.out _⟩, ⟨pw_below_drewN HBw.out _⟩⟩
          · have hI : i = R.length := by have := HI.out; omega
            subst hI
            have HBs := Aside0.mk HBr.out
            have HBv := Aside0.mk HBw.out
            clear HBr HBw HI
            go_wp2
            go_loopg [71] K.length (fun kq v71 w' => ∃ i : Nat, v71 = .int .i64 i ∧ Aside0 (i ≤ K.length ∧ kq = K.length - i) ∧ Aside0 (Below w7.heap.size w7 w') ∧ Aside0 (Below W.heap.size W w'))
            case atStart => exact ⟨0, rfl, ⟨by omega, by omega⟩, ⟨HBs.out⟩, ⟨HBv.out⟩⟩
            case round =>
              obtain ⟨i, rfl, HI, HBr, HBw⟩ := hrel
              by_cases hlt : i < K.length
              · obtain ⟨ad, Aa, ca, rfl, ka, la, Ka⟩ := at_row (Kd.C_below HC67.out HBr.out) i hlt rfl
                obtain ⟨ad2, Ab, cb, rfl, kb, lb, Kb⟩ := at_row (Kd.C_below HC7.out HBr.out) i hlt rfl
                have hlt' : (i : Int) < (K.length : Int) := by omega
                have HWI := Aside0.mk (show wrap64 ((i : Int) + 1) = ((i + 1 : Nat) : Int) by have := HRK.out; unfold wrap64; omega)
                have HS := Aside0.mk (fun n => sameK_calls Aa ca (K[i]) Ab cb (K[i]) (wr.drewN n) (Kd.C_drewN Ka n) la (Kd.C_drewN Kb n) lb)
                rw [oneL_self] at HS
                clear Ka Kb la lb
                generalize K[i] = x at ka kb HS
                go_wp2
                go_quiet ((go_at_call 16; exact Calls.quiet_of (HS.out _)))
                go_wp2
                go_roundg (K.length - (i + 1))
                case measure => have := HI.out; omega
                case rel => exact ⟨i + 1, by rw [HWI.out], ⟨by omega, rfl⟩, ⟨pw_below_drewN HBr.out _⟩, ⟨pw_below_drewN HBw.out _⟩⟩
              · have hI : i = K.length := by have := HI.out; omega
                subst hI
                have HBz := Aside0.mk HBw.out
                clear HBr HBw
                go_wp2_with (first | (go_at_call 17; refine (pkey_calls s _).mono ?_; rintro e w8 ⟨rfl, hb⟩; have HB8 := Aside0.mk (below_step HBz.out hb); clear hb) | (go_at_call 18; refine (rkey_calls s _).mono ?_; rintro e w9 ⟨rfl, hb⟩; have HB9 := Aside0.mk (below_step HB8.out hb); clear hb) | (go_at_call 19; refine (pval_calls s _).mono ?_; rintro e wa ⟨rfl, hb⟩; have HBa := Aside0.mk (below_step HB9.out hb); clear hb) | (go_at_call 20; refine (rval_calls s _).mono ?_; rintro e wb ⟨rfl, hb⟩; have HBb := Aside0.mk (below_step HBa.out hb); clear hb))
                go_ret
                exact ⟨by first | rfl | simp, HBb.out⟩
end Go.Proofs.Ytdbgfmiokmempaa.Sep
