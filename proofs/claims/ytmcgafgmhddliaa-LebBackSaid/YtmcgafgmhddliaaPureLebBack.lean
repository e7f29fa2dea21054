/- Numbers that package leb's Put writes are told again by All, and bytes that are numbers are by Put just these bytes. Conditions: none beyond the statement's own. -/
import Derived.Test.YtmcgafgmhddliaaPLebx5
import Derived.Test.YtmcgafgmhddliaaLebForms2
namespace Go.Proofs.Ytmcgafgmhddliaa.Pure
open Go.RowKit Go.Proofs.Ytmcgafgmhddliaa.PLeb Go.Proofs.Ytmcgafgmhddliaa.Plain Go.Proofs.YtmcgafgmhddliaaW.PrintWords Go.Proofs.YtmcgafgmhddliaaW.PrintLast Go.Proofs.YtmcgafgmhddliaaW.PrintMore

theorem LebBack : apographlaw01_LebBack.Pure := by
  intro l b _ _ hl _ _ hb
  have hl' : ∀ x ∈ l, 0 ≤ x ∧ x < 18446744073709551616 := fun x hx => u64_of (hl x hx)
  have hb' : ∀ x ∈ b, 0 ≤ x ∧ x < 256 := fun x hx => u8_of (hb x hx)
  refine Ev.rounds (Ev.bind awake_ev ?_)
  simp only [if_true]
  by_cases c : (b.length : Int) > 300
  · simp only [if_pos c]
    refine Ev.step (f := fun _ => some true) (fun k => ?_) (Ev.now _)
    simp only [apographlaw01_LebBack.j0, if_true]
  · simp only [if_neg c]
    by_cases c2 : (l.length : Int) > 30
    · simp only [decide_eq_true c2]
      refine Ev.step (f := fun _ => some true) (fun k => ?_) (Ev.now _)
      simp only [apographlaw01_LebBack.j0, if_true]
    · simp only [decide_eq_false c2]
      refine Ev.step (fun k => by simp only [apographlaw01_LebBack.j0, Bool.false_eq_true, if_false] <;> rfl) ?_
      have hlen := encs_le l hl'
      have hin : ∀ x ∈ encs l, 0 ≤ x ∧ x < 256 := encs_bytes l hl'
      have hll := encs_len l
      refine Ev.bind (put_form [] l hl' (by simp; omega)) ?_
      rw [List.nil_append]
      refine Ev.bind (lebAll_form (encs l) hin (by omega)) ?_
      rw [decs_encs l _ hl' (by omega)]
      simp only [toldAll, List.nil_append, if_true]
      refine Ev.bind (same_form l l (by omega)) ?_
      simp only [decide_true, Bool.not_true]
      refine Ev.step (fun k => by simp only [apographlaw01_LebBack.j1, Bool.false_eq_true, if_false] <;> rfl) ?_
      refine Ev.bind (lebAll_form b hb' (by omega)) ?_
      cases h : decs (b.length + 1) b with
      | none =>
        simp only [toldAll]
        exact Ev.now _
      | some m =>
        obtain ⟨e, hm⟩ := decs_some _ b m hb' h
        have hml := encs_len m
        have h2 := congrArg List.length e
        simp only [toldAll, List.nil_append, if_true]
        refine Ev.bind (put_form [] m hm (by simp; omega)) ?_
        rw [List.nil_append, ← e]
        simp only [beq_self_eq_true]
        exact Ev.now _

end Go.Proofs.Ytmcgafgmhddliaa.Pure
