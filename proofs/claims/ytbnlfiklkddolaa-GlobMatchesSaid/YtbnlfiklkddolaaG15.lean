/- The walk of the reference's Glob. Conditions: the bounds of the statements. -/
import Derived.Test.YtbnlfiklkddolaaG14
namespace Go.Proofs.Ytbnlfiklkddolaa.Sep
set_option linter.unusedSimpArgs false
set_option linter.unusedVariables false
open Go.RowKit Go.Proofs.Ytbnlfiklkddolaa.PCore Go.Proofs.Ytbnlfiklkddolaa.Plain Go.Proofs.YtbnlfiklkddolaaW.PrintWords Go.Proofs.YtbnlfiklkddolaaW.PrintLast Go.Proofs.YtbnlfiklkddolaaW.PrintMore
/-- What Glob answers. -/
def globAns (s : ByteArray) : Int := if 100 < s.size then 2 else if (pat (bytesOf s)).isNone = true then 180 else 0
set_option maxHeartbeats 4000000 in
set_option maxRecDepth 100000 in
theorem rglob_calls (s : ByteArray) (W : World) :
    Calls Try.prog 11 #[.string s] W fun e W1 => e = .returned (.int .i64 (globAns s)) ∧ Below W.heap.size W W1 := by
  by_cases hl : 100 < s.size
  · have d1 : decide ((100 : Int) < (s.size : Int)) = true := decide_eq_true (by omega)
    have d2 : decide (100 < s.size) = true := decide_eq_true hl
    have HL := Aside0.mk hl
    clear hl
    go_enter Try.func11, Try.ntmps11
    go_wp2
    go_ret
    rw [globAns, if_pos HL.out]
    exact ⟨rfl, Below.refl _ _⟩
  · have d1 : decide ((100 : Int) < (s.size : Int)) = false := decide_eq_false (by omega)
    have d2 : decide (100 < s.size) = false := decide_eq_false hl
    have HL := Aside0.mk hl
    have HP := Aside0.mk (rpattern_calls s W (by omega))
    clear hl
    cases hp : pat (bytesOf s) with
    | none =>
      have HPA := Aside0.mk hp
      clear hp
      go_enter Try.func11, Try.ntmps11
      go_wp2_with (go_at_call 23; refine HP.out.mono ?_; rintro e w2 ⟨hb, hm⟩; rw [HPA.out] at hm; obtain rfl := hm; have HB := Aside0.mk hb; clear hb)
      go_ret
      rw [globAns, if_neg HL.out, HPA.out]
      exact ⟨rfl, HB.out⟩
    | some l =>
      have HPA := Aside0.mk hp
      clear hp
      go_enter Try.func11, Try.ntmps11
      go_wp2_with (go_at_call 23; refine HP.out.mono ?_; rintro e w2 ⟨hb, hm⟩; rw [HPA.out] at hm; obtain ⟨A, n, rfl, hC, hl, hx⟩ := hm; have HB := Aside0.mk hb; clear hb hC hl hx)
      go_ret
      rw [globAns, if_neg HL.out, HPA.out]
      exact ⟨rfl, HB.out⟩
end Go.Proofs.Ytbnlfiklkddolaa.Sep
