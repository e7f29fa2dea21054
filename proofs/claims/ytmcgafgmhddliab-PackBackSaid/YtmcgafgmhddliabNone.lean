/- Writers and readers that nobody made: each of their methods tells nothing. Conditions: none. -/
import Derived.Test.YtmcgafgmhddliabWriter
namespace Go.Proofs.Ytmcgafgmhddliab.Sep
open Go.RowKit Go.Proofs.Ytmcgafgmhddliab.PCore Go.Proofs.Ytmcgafgmhddliab.Plain Go.Proofs.YtmcgafgmhddliabW.PrintWords Go.Proofs.YtmcgafgmhddliabW.PrintLast Go.Proofs.YtmcgafgmhddliabW.PrintMore
theorem none_num (v : Value) (W : World) : Calls Try.prog 13 #[.pointer none, v] W fun e W1 => e = .returned (.tuple #[]) ∧ W = W1 := by
  go_enter Try.func13, Try.ntmps13
  go_wp2
  go_end0
  exact ⟨rfl, rfl⟩
theorem none_text (v : Value) (W : World) : Calls Try.prog 14 #[.pointer none, v] W fun e W1 => e = .returned (.tuple #[]) ∧ W = W1 := by
  go_enter Try.func14, Try.ntmps14
  go_wp2
  go_end0
  exact ⟨rfl, rfl⟩
theorem none_flag (W : World) : Calls Try.prog 15 #[.pointer none, .bool true] W fun e W1 => e = .returned (.tuple #[]) ∧ Below W.heap.size W W1 := by
  go_enter Try.func15, Try.ntmps15
  go_wp2_with fail
  refine (none_num _ _).mono ?_
  rintro e w1 ⟨rfl, rfl⟩
  go_wp2
  refine bodyPost_ret (v := .tuple #[]) (by simp [results, Try.results15, go_sem]) rfl ?_
  exact ⟨rfl, below_alloc (Below.refl _ _) _⟩
theorem none_bytes (W : World) : Calls Try.prog 16 #[.pointer none] W fun e W1 => e = .returned (.slice none 0 0) ∧ W = W1 := by
  go_enter Try.func16, Try.ntmps16
  go_wp2
  go_ret
  exact ⟨rfl, rfl⟩
theorem none_ok (W : World) : Calls Try.prog 21 #[.pointer none] W fun e W1 => e = .returned (.bool false) ∧ W = W1 := by
  go_enter Try.func21, Try.ntmps21
  go_wp2
  go_ret
  exact ⟨rfl, rfl⟩
theorem none_fail (W : World) : Calls Try.prog 27 #[.pointer none] W fun e W1 => e = .returned (.tuple #[]) ∧ W = W1 := by
  go_enter Try.func27, Try.ntmps27
  go_wp2
  go_end0
  exact ⟨rfl, rfl⟩
theorem none_rnum (n : Int) (W : World) : Calls Try.prog 23 #[.pointer none, .int .u64 n] W fun e W1 => e = .returned (.int .u64 0) ∧ W = W1 := by
  go_enter Try.func23, Try.ntmps23
  go_wp2_with (go_at_call 21; refine (none_ok _).mono ?_; rintro e w' ⟨rfl, rfl⟩)
  go_ret
  exact ⟨rfl, rfl⟩
theorem none_left (W : World) : Calls Try.prog 28 #[.pointer none] W fun e W1 => e = .returned (.int .i64 0) ∧ W = W1 := by
  go_enter Try.func28, Try.ntmps28
  go_wp2_with (go_at_call 21; refine (none_ok _).mono ?_; rintro e w' ⟨rfl, rfl⟩)
  go_ret
  exact ⟨rfl, rfl⟩
theorem none_rtext (W : World) : Calls Try.prog 24 #[.pointer none, .int .i64 9] W fun e W1 => e = .returned (.string ⟨#[]⟩) ∧ W = W1 := by
  go_enter Try.func24, Try.ntmps24
  go_wp2_with (first | (go_at_call 21; refine (none_ok _).mono ?_; rintro e w' ⟨rfl, rfl⟩) | (go_at_call 23; refine (none_rnum _ _).mono ?_; rintro e w' ⟨rfl, rfl⟩) | (go_at_call 28; refine (none_left _).mono ?_; rintro e w' ⟨rfl, rfl⟩))
  go_ret
  exact ⟨rfl, rfl⟩
theorem none_rflag (W : World) : Calls Try.prog 25 #[.pointer none] W fun e W1 => e = .returned (.bool false) ∧ W = W1 := by
  go_enter Try.func25, Try.ntmps25
  go_wp2_with (go_at_call 23; refine (none_rnum _ _).mono ?_; rintro e w' ⟨rfl, rfl⟩)
  go_ret
  exact ⟨rfl, rfl⟩
theorem none_done (W : World) : Calls Try.prog 12 #[.pointer none] W fun e W1 => e = .returned (.bool false) ∧ W = W1 := by
  go_enter Try.func12, Try.ntmps12
  go_wp2_with (go_at_call 21; refine (none_ok _).mono ?_; rintro e w' ⟨rfl, rfl⟩)
  go_ret
  exact ⟨rfl, rfl⟩
end Go.Proofs.Ytmcgafgmhddliab.Sep
