/- Package leb's Put writes any numbers behind any bytes as the reference does, and Size tells how many bytes a number has. Conditions: none beyond the statement's own. -/
import Derived.Test.YtmcgafgmhddliaaPLebx2
import Derived.Test.YtmcgafgmhddliaaLebForms2
namespace Go.Proofs.Ytmcgafgmhddliaa.Pure
open Go.RowKit Go.Proofs.Ytmcgafgmhddliaa.PLeb Go.Proofs.Ytmcgafgmhddliaa.Plain Go.Proofs.YtmcgafgmhddliaaW.PrintWords Go.Proofs.YtmcgafgmhddliaaW.PrintLast Go.Proofs.YtmcgafgmhddliaaW.PrintMore

theorem LebPuts : apographlaw01_LebPuts.Pure := by
  intro b l n _ _ hb _ _ hl hn
  have hb' : ∀ x ∈ b, 0 ≤ x ∧ x < 256 := fun x hx => u8_of (hb x hx)
  have hl' : ∀ x ∈ l, 0 ≤ x ∧ x < 18446744073709551616 := fun x hx => u64_of (hl x hx)
  have hn' := u64_of hn
  refine Ev.rounds (Ev.bind awake_ev ?_)
  simp only [if_true]
  by_cases c : (b.length : Int) > 100
  · simp only [if_pos c]
    refine Ev.step (f := fun _ => some true) (fun k => ?_) (Ev.now _)
    simp only [apographlaw01_LebPuts.j0, if_true]
  · simp only [if_neg c]
    by_cases c2 : (l.length : Int) > 30
    · simp only [decide_eq_true c2]
      refine Ev.step (f := fun _ => some true) (fun k => ?_) (Ev.now _)
      simp only [apographlaw01_LebPuts.j0, if_true]
    · simp only [decide_eq_false c2]
      refine Ev.step (fun k => by simp only [apographlaw01_LebPuts.j0, Bool.false_eq_true, if_false] <;> rfl) ?_
      refine Ev.bind (put_form b l hl' (by omega)) ?_
      simp only [if_pos (show ([] : List Int).length + b.length < 140737488355328 by simp; omega), List.nil_append]
      refine Ev.bind (all_form b l hl' (by omega)) ?_
      simp only [if_true]
      refine Ev.bind (size_form hn'.1 hn'.2) (Ev.bind (num_form [] hn'.1 hn'.2 (by simp)) ?_)
      simp only [List.nil_append, beq_self_eq_true]
      exact Ev.now _

end Go.Proofs.Ytmcgafgmhddliaa.Pure
