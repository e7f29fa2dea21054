/- Package leb's Of and All tell of any bytes what the reference tells. Conditions: none beyond the statement's own. -/
import Derived.Test.YtmcgafgmhddliaaPLebx4
import Derived.Test.YtmcgafgmhddliaaLebForms2
namespace Go.Proofs.Ytmcgafgmhddliaa.Pure
open Go.RowKit Go.Proofs.Ytmcgafgmhddliaa.PLeb Go.Proofs.Ytmcgafgmhddliaa.Plain Go.Proofs.YtmcgafgmhddliaaW.PrintWords Go.Proofs.YtmcgafgmhddliaaW.PrintLast Go.Proofs.YtmcgafgmhddliaaW.PrintMore

theorem LebOf : apographlaw01_LebOf.Pure := by
  intro b _ _ hb
  have hb' : ∀ x ∈ b, 0 ≤ x ∧ x < 256 := fun x hx => u8_of (hb x hx)
  refine Ev.rounds (Ev.bind awake_ev ?_)
  simp only [if_true]
  by_cases c : (b.length : Int) > 300
  · simp only [if_pos c]
    exact Ev.now _
  · simp only [if_neg c]
    refine Ev.bind (of_form b hb' (by omega)) (Ev.bind (leb_form b hb' (by omega)) (Ev.bind (lebAll_form b hb' (by omega)) (Ev.bind (lebs_form b hb' (by omega)) ?_)))
    simp only [if_true]
    refine Ev.bind (same_form _ _ ?_) ?_
    · cases h : decs (b.length + 1) b with
      | none => simp [toldAll]
      | some l =>
        obtain ⟨e, _⟩ := decs_some _ b l hb' h
        have := encs_len l
        simp only [toldAll, List.nil_append]
        have h2 := congrArg List.length e
        omega
    · simp only [decide_true, if_true, beq_self_eq_true]
      exact Ev.now _

end Go.Proofs.Ytmcgafgmhddliaa.Pure
