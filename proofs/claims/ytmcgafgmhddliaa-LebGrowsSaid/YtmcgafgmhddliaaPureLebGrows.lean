/- By package leb a greater number has as many bytes as a lesser one, or more, and Put writes just so many. Conditions: none beyond the statement's own. -/
import Derived.Test.YtmcgafgmhddliaaPLebx3
import Derived.Test.YtmcgafgmhddliaaLebForms2
namespace Go.Proofs.Ytmcgafgmhddliaa.Pure
open Go.RowKit Go.Proofs.Ytmcgafgmhddliaa.PLeb Go.Proofs.Ytmcgafgmhddliaa.Plain Go.Proofs.YtmcgafgmhddliaaW.PrintWords Go.Proofs.YtmcgafgmhddliaaW.PrintLast Go.Proofs.YtmcgafgmhddliaaW.PrintMore

theorem grows {a b : Int} (ha : 0 ≤ a ∧ a < 18446744073709551616) (hb : 0 ≤ b ∧ b < 18446744073709551616) : ((enc (mn a b)).length ≤ (enc (mx a b)).length) ∧ (enc (mn a b)).length + (enc (mx a b)).length = (enc a).length + (enc b).length ∧ (0 ≤ mn a b ∧ mn a b < 18446744073709551616) ∧ (0 ≤ mx a b ∧ mx a b < 18446744073709551616) := by
  unfold mn mx
  by_cases c : a < b
  · rw [if_neg (show ¬ b < a by omega), if_pos c]
    exact ⟨enc_len_mono b.toNat a b (Nat.le_refl _) ha.1 (by omega), rfl, ha, hb⟩
  · rw [if_neg c]
    by_cases c2 : b < a
    · rw [if_pos c2]
      exact ⟨enc_len_mono a.toNat b a (Nat.le_refl _) hb.1 (by omega), Nat.add_comm _ _, hb, ha⟩
    · rw [if_neg c2]
      have : a = b := by omega
      subst this
      exact ⟨Nat.le_refl _, rfl, ha, ha⟩
theorem LebGrows : apographlaw01_LebGrows.Pure := by
  intro a b ha hb
  have ha' := u64_of ha
  have hb' := u64_of hb
  obtain ⟨h1, h2, h3, h4⟩ := grows ha' hb'
  have h5 := enc_len_pos (mn a b)
  have h6 := enc_len_u64 h4.1 h4.2
  refine Ev.rounds (Ev.bind awake_ev ?_)
  simp only [if_true]
  refine Ev.bind (size_form h3.1 h3.2) (Ev.bind (size_form h4.1 h4.2) ?_)
  simp only [if_pos (show ((enc (mn a b)).length : Int) ≥ 1 by omega), if_pos (show ((enc (mn a b)).length : Int) ≤ (enc (mx a b)).length by omega), if_pos (show ((enc (mx a b)).length : Int) ≤ 10 by omega)]
  refine Ev.bind (put_form [] [a, b] (fun x hx => ?_) (by simp)) ?_
  · simp only [List.mem_cons, List.not_mem_nil, or_false] at hx
    rcases hx with rfl | rfl
    · exact ha'
    · exact hb'
  · have e : (([] : List Int) ++ encs [a, b]).length = (enc a).length + (enc b).length := by
      rw [List.nil_append, Plain.encs_cons, Plain.encs_cons, Plain.encs_nil, List.append_nil, List.length_append]
    have ew : wrap64 (((enc (mn a b)).length : Int) + (enc (mx a b)).length) = (enc (mn a b)).length + (enc (mx a b)).length := by unfold wrap64; omega
    rw [e, ew, show (((enc a).length + (enc b).length : Nat) : Int) = (enc (mn a b)).length + (enc (mx a b)).length by omega]
    simp only [beq_self_eq_true]
    exact Ev.now _

end Go.Proofs.Ytmcgafgmhddliaa.Pure
