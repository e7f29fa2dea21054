/- What is written is read again, and what is read had been written so: numbers, texts, flags. Conditions: bytes are bytes. -/
import Derived.Test.YtcegkljkmnpkaaaReader2
namespace Go.Proofs.Ytcegkljkmnpkaaa.Sep
open Go.RowKit Go.Proofs.Ytcegkljkmnpkaaa.PCore Go.Proofs.Ytcegkljkmnpkaaa.Plain Go.Proofs.YtcegkljkmnpkaaaW.PrintWords Go.Proofs.YtcegkljkmnpkaaaW.PrintLast Go.Proofs.YtcegkljkmnpkaaaW.PrintMore
theorem encB_in (b : Bool) : ∀ x ∈ encB b, 0 ≤ x ∧ x < 256 := by
  intro x hx
  cases b <;> simp [encB] at hx <;> subst hx <;> decide
theorem rdNum_bad {most : Int} {s : RS} (h : s.2 = true) : (rdNum most s).2.2 = true := by unfold rdNum; rw [if_pos h]; exact h
theorem rdText_bad {most : Int} {s : RS} (h : s.2 = true) : (rdText most s).2.2 = true := by
  unfold rdText
  by_cases c : most < 0
  · rw [if_pos c]; rfl
  · rw [if_neg c]; simp only; rw [if_pos (rdNum_bad h)]; exact rdNum_bad h
theorem rdFlag_bad {s : RS} (h : s.2 = true) : (rdFlag s).2.2 = true := rdNum_bad h
theorem rdDone_iff (s : RS) : rdDone s = true ↔ s = ([], false) := by
  obtain ⟨b, f⟩ := s
  cases f <;> simp [rdDone]
end Go.Proofs.Ytcegkljkmnpkaaa.Sep
