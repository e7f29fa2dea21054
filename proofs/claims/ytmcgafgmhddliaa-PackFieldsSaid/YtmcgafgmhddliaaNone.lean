/- Writers and readers that nobody made: each of their methods tells nothing. Conditions: none. -/
import Derived.Test.YtmcgafgmhddliaaWriter
namespace Go.Proofs.Ytmcgafgmhddliaa.Sep
open Go.RowKit Go.Proofs.Ytmcgafgmhddliaa.PCore Go.Proofs.Ytmcgafgmhddliaa.Plain Go.Proofs.YtmcgafgmhddliaaW.PrintWords Go.Proofs.YtmcgafgmhddliaaW.PrintLast Go.Proofs.YtmcgafgmhddliaaW.PrintMore
theorem none_num (v : Value) (W : World) : Calls Try.prog 39 #[.pointer none, v] W fun e W1 => e = .returned (.tuple #[]) ∧ W = W1 := by
  go_enter Try.func39, Try.ntmps39
  go_wp2
  go_end0
  exact ⟨rfl, rfl⟩
theorem none_text (v : Value) (W : World) : Calls Try.prog 40 #[.pointer none, v] W fun e W1 => e = .returned (.tuple #[]) ∧ W = W1 := by
  go_enter Try.func40, Try.ntmps40
  go_wp2
  go_end0
  exact ⟨rfl, rfl⟩
theorem none_flag (W : World) : Calls Try.prog 41 #[.pointer none, .bool true] W fun e W1 => e = .returned (.tuple #[]) ∧ Below W.heap.size W W1 := by
  go_enter Try.func41, Try.ntmps41
  go_wp2_with fail
  refine (none_num _ _).mono ?_
  rintro e w1 ⟨rfl, rfl⟩
  go_wp2
  refine bodyPost_ret (v := .tuple #[]) (by simp [results, Try.results41, go_sem]) rfl ?_
  exact ⟨rfl, below_alloc (Below.refl _ _) _⟩
theorem none_bytes (W : World) : Calls Try.prog 42 #[.pointer none] W fun e W1 => e = .returned (.slice none 0 0) ∧ W = W1 := by
  go_enter Try.func42, Try.ntmps42
  go_wp2
  go_ret
  exact ⟨rfl, rfl⟩
theorem none_ok (W : World) : Calls Try.prog 60 #[.pointer none] W fun e W1 => e = .returned (.bool false) ∧ W = W1 := by
  go_enter Try.func60, Try.ntmps60
  go_wp2
  go_ret
  exact ⟨rfl, rfl⟩
theorem none_fail (W : World) : Calls Try.prog 61 #[.pointer none] W fun e W1 => e = .returned (.tuple #[]) ∧ W = W1 := by
  go_enter Try.func61, Try.ntmps61
  go_wp2
  go_end0
  exact ⟨rfl, rfl⟩
theorem none_rnum (n : Int) (W : World) : Calls Try.prog 43 #[.pointer none, .int .u64 n] W fun e W1 => e = .returned (.int .u64 0) ∧ W = W1 := by
  go_enter Try.func43, Try.ntmps43
  go_wp2_with (go_at_call 60; refine (none_ok _).mono ?_; rintro e w' ⟨rfl, rfl⟩)
  go_ret
  exact ⟨rfl, rfl⟩
theorem none_left (W : World) : Calls Try.prog 46 #[.pointer none] W fun e W1 => e = .returned (.int .i64 0) ∧ W = W1 := by
  go_enter Try.func46, Try.ntmps46
  go_wp2_with (go_at_call 60; refine (none_ok _).mono ?_; rintro e w' ⟨rfl, rfl⟩)
  go_ret
  exact ⟨rfl, rfl⟩
theorem none_rtext (W : World) : Calls Try.prog 44 #[.pointer none, .int .i64 9] W fun e W1 => e = .returned (.string ⟨#[]⟩) ∧ W = W1 := by
  go_enter Try.func44, Try.ntmps44
  go_wp2_with (first | (go_at_call 60; refine (none_ok _).mono ?_; rintro e w' ⟨rfl, rfl⟩) | (go_at_call 43; refine (none_rnum _ _).mono ?_; rintro e w' ⟨rfl, rfl⟩) | (go_at_call 46; refine (none_left _).mono ?_; rintro e w' ⟨rfl, rfl⟩))
  go_ret
  exact ⟨rfl, rfl⟩
theorem none_rflag (W : World) : Calls Try.prog 45 #[.pointer none] W fun e W1 => e = .returned (.bool false) ∧ W = W1 := by
  go_enter Try.func45, Try.ntmps45
  go_wp2_with (go_at_call 43; refine (none_rnum _ _).mono ?_; rintro e w' ⟨rfl, rfl⟩)
  go_ret
  exact ⟨rfl, rfl⟩
theorem none_done (W : World) : Calls Try.prog 47 #[.pointer none] W fun e W1 => e = .returned (.bool false) ∧ W = W1 := by
  go_enter Try.func47, Try.ntmps47
  go_wp2_with (go_at_call 60; refine (none_ok _).mono ?_; rintro e w' ⟨rfl, rfl⟩)
  go_ret
  exact ⟨rfl, rfl⟩
end Go.Proofs.Ytmcgafgmhddliaa.Sep
