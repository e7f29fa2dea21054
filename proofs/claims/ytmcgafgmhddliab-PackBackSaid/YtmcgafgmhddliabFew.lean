/- Whether fields are few and small. Conditions: the bounds of the statement. -/
import Derived.Test.YtmcgafgmhddliabAwake2
namespace Go.Proofs.Ytmcgafgmhddliab.Sep
open Go.RowKit Go.Proofs.Ytmcgafgmhddliab.PCore Go.Proofs.Ytmcgafgmhddliab.Plain Go.Proofs.YtmcgafgmhddliabW.PrintWords Go.Proofs.YtmcgafgmhddliabW.PrintLast Go.Proofs.YtmcgafgmhddliabW.PrintMore
open Go.Proofs.Ytmcgafgmhddliab.PDat (S28 k28 z28 rd_T28 at_T28)
theorem of_wf_u8 {n : Int} (h : (Lit.int .u8 n).wf = true) : 0 ≤ n ∧ n < 256 := by
  simp [Lit.wf, IntKind.min, IntKind.max, IntKind.signed, IntKind.bits] at h
  omega
theorem of_wf_u64 {n : Int} (h : (Lit.int .u64 n).wf = true) : 0 ≤ n ∧ n < 18446744073709551616 := by
  simp [Lit.wf, IntKind.min, IntKind.max, IntKind.signed, IntKind.bits] at h
  omega
def smallF (x : S28) : Bool := decide (x.f2.size ≤ 200)
/-- Whether fields are few and small. -/
def fewB (l : List S28) : Bool := l.all smallF && decide (l.length ≤ 20)
theorem rd_T_eq {l : List S28} (i : Nat) (hi : i < l.length) : rd_T28 l (i : Int) = l[i] := by simp [rd_T28, List.getD, hi]
theorem all_take_one {l : List S28} (i : Nat) (hi : i < l.length) : (l.take (i + 1)).all smallF = ((l.take i).all smallF && smallF l[i]) := by
  rw [take_one l i hi, List.all_append]
  simp
set_option maxHeartbeats 2000000 in
set_option maxRecDepth 100000 in
theorem few_calls (A : Option Addr) (c : Nat) (l : List S28) (W : World) (hC : Kd.C k28 W A l.length l) (hn : l.length ≤ 9223372036854775807) :
    Calls Try.prog 5 #[.slice A l.length c] W fun e W1 => e = .returned (.bool (fewB l)) ∧ Below W.heap.size W W1 := by
  have HC := Aside0.mk hC
  have HN := Aside0.mk hn
  clear hC hn
  have huF := Try.underlying28
  go_enter Try.func5, Try.ntmps5
  go_wp2
  go_loopg [7] l.length (fun kq v7 w' => ∃ i : Nat, v7 = .int .i64 i ∧ Aside0 (i ≤ l.length ∧ kq = l.length - i) ∧ Aside0 ((l.take i).all smallF = true) ∧ Aside0 (Below W.heap.size W w'))
  case atStart => exact ⟨0, rfl, ⟨by omega, by omega⟩, ⟨rfl⟩, ⟨Below.refl _ _⟩⟩
  case round =>
    obtain ⟨i, rfl, HI, HA, HB⟩ := hrel
    by_cases hlt : i < l.length
    · obtain ⟨ad, rfl, h0, h1, h2, h3⟩ := at_T28 (Kd.C_below HC.out HB.out) (i : Int) (by omega) (by omega)
      have HT := Aside0.mk (all_take_one i hlt)
      have HM := Aside0.mk (List.getElem_mem hlt)
      rw [rd_T_eq i hlt] at h0 h1 h2 h3
      generalize l[i] = x at h0 h1 h2 h3 HT HM
      obtain ⟨f0, f1, f2, f3⟩ := x
      simp only [Int.toNat_natCast] at h0 h1 h2 h3
      have hlt' : (i : Int) < (l.length : Int) := by omega
      have HWI := Aside0.mk (show wrap64 ((i : Int) + 1) = ((i + 1 : Nat) : Int) by have := HN.out; unfold wrap64; omega)
      by_cases hs : (200 : Int) < (f2.size : Int)
      · have hs' : decide ((200 : Int) < (f2.size : Int)) = true := decide_eq_true hs
        go_wp2
        go_ret
        refine ⟨?_, below_alloc HB.out _⟩
        have : fewB l = false := by
          have h : l.all smallF = false := List.all_eq_false.2 ⟨_, HM.out, by simp [smallF]; omega⟩
          rw [fewB, h]
          rfl
        rw [this]
        rfl
      · have hs' : decide ((200 : Int) < (f2.size : Int)) = false := decide_eq_false hs
        go_wp2
        go_roundg (l.length - (i + 1))
        case measure => have := HI.out; omega
        case rel => exact ⟨i + 1, by rw [HWI.out], ⟨by omega, rfl⟩, ⟨by rw [HT.out, HA.out]; simp [smallF]; omega⟩, ⟨below_alloc HB.out _⟩⟩
    · have hI : i = l.length := by have := HI.out; omega
      subst hI
      go_wp2
      go_ret
      refine ⟨?_, HB.out⟩
      have h := HA.out
      rw [List.take_length] at h
      have e : decide (l.length ≤ 20) = decide ((l.length : Int) ≤ 20) := by congr 1; exact propext ⟨fun h => by omega, fun h => by omega⟩
      rw [fewB, h, Bool.true_and, e]
      rfl
end Go.Proofs.Ytmcgafgmhddliab.Sep
