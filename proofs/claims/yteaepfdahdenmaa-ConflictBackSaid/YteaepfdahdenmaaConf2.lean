/- Which clashes may be: the program's Right. Printed by gen2.py. Conditions: the bounds of the statements. -/
import Derived.Test.YteaepfdahdenmaaConf1
namespace Go.Proofs.Yteaepfdahdenmaa.Sep
set_option linter.unusedSimpArgs false
set_option linter.unusedVariables false
open Go.RowKit Go.Proofs.Yteaepfdahdenmaa.PCore Go.Proofs.Yteaepfdahdenmaa.Plain Go.Proofs.YteaepfdahdenmaaW.PrintWords Go.Proofs.YteaepfdahdenmaaW.PrintLast Go.Proofs.YteaepfdahdenmaaW.PrintMore
open Go.Proofs.Yteaepfdahdenmaa.PDat (S44 k44 z44 rd_T44 at_T44 S46 k46 z46 rd_T46 at_T46)
/-- Whether a key comes ahead of another one. -/
def lessK (a b : ByteArray) : Bool := Op.bytesLess a.toList b.toList
/-- What is wrong with clashes, behind a key. -/
def confL : Option ByteArray → List Clash → Int
  | _, [] => 0
  | p, c :: l => if oneE c ≠ 0 then oneE c else if (match p with | some k => lessK k c.f0 | none => true) = true then confL (some c.f0) l else 132
def confE (l : List Clash) : Int := confL none l
theorem str_geq (a b : ByteArray) (w : World) : (binOp .geq 9 (.string a) (.string b)).run Try.prog w = .ok (.bool (!Op.bytesLess a.toList b.toList)) w := by
  first | rfl | kernel_rfl
def prevK (l : List Clash) (i : Nat) : Option ByteArray := if i = 0 then none else some (rd_T46 l ((i - 1 : Nat) : Int)).f0
theorem cl_at {l : List Clash} (i : Nat) (hi : i < l.length) : rd_T46 l (i : Int) = l[i] := by simp [rd_T46, List.getD, hi]
theorem cl_drop (l : List Clash) (i : Nat) (h : i < l.length) : l.drop i = rd_T46 l (i : Int) :: l.drop (i + 1) := by
  rw [List.drop_eq_getElem_cons h, cl_at i h]
theorem prevK_succ (l : List Clash) (i : Nat) : prevK l (i + 1) = some (rd_T46 l (i : Int)).f0 := by simp [prevK]
set_option maxHeartbeats 8000000 in
set_option maxRecDepth 100000 in
theorem right13_calls (A : Option Addr) (n : Nat) (l : List Clash) (W : World) (hC : Kd.C k46 W A l.length l) (hn : l.length ≤ 9223372036854775807) :
    Calls Try.prog 11 #[.slice A l.length n] W fun e W1 => e = .returned (.int .i64 (confE l)) ∧ Below W.heap.size W W1 := by
  have HC := Aside0.mk hC
  have HN := Aside0.mk hn
  clear hC hn
  have huF := Try.underlying46
  go_enter Try.func11, Try.ntmps11
  go_wp2
  go_loopg [8] l.length (fun kq v8 w' => ∃ i : Nat, v8 = .int .i64 i ∧ Aside0 (i ≤ l.length ∧ kq = l.length - i) ∧ Aside0 (confE l = confL (prevK l i) (l.drop i)) ∧ Aside0 (Below W.heap.size W w'))
  case atStart => exact ⟨0, rfl, ⟨by omega, by omega⟩, ⟨rfl⟩, ⟨Below.refl _ _⟩⟩
  case round =>
    obtain ⟨i, rfl, HI, HE, HB⟩ := hrel
    by_cases hlt : i < l.length
    · obtain ⟨ad, rfl, h0, h1, h2, h3, h4, h5, h6⟩ := at_T46 (Kd.C_below HC.out HB.out) (i : Int) (by omega) (by omega)
      have hE := HE.out
      rw [cl_drop l i hlt] at hE
      have HE2 := Aside0.mk hE
      have HPS := Aside0.mk (prevK_succ l i)
      clear hE HE
      simp only [Int.toNat_natCast] at h0 h1 h2 h3 h4 h5 h6
      generalize hc : rd_T46 l (i : Int) = c at h0 h1 h2 h3 h4 h5 h6 HE2 HPS
      clear hc
      obtain ⟨f0, ⟨g0, g1⟩, ⟨p0, p1⟩, ⟨q0, q1⟩⟩ := c
      simp only at h0 h1 h2 h3 h4 h5 h6
      have hlt' : (i : Int) < (l.length : Int) := by omega
      have HWI := Aside0.mk (show wrap64 ((i : Int) + 1) = ((i + 1 : Nat) : Int) by have := HN.out; unfold wrap64; omega)
      by_cases ho : oneE ⟨f0, ⟨g0, g1⟩, ⟨p0, p1⟩, ⟨q0, q1⟩⟩ = 0
      · have HO := Aside0.mk ho
        by_cases hi : i = 0
        · have hi' : decide ((0 : Int) < (i : Int)) = false := decide_eq_false (by omega)
          have hiN : decide (0 < i) = false := decide_eq_false (by omega)
          have HG := Aside0.mk (show confE l = confL (some f0) (l.drop (i + 1)) by
            rw [HE2.out, prevK, if_pos hi]
            simp [confL, ho])
          clear hi ho
          go_wp2_with (go_at_call 31; refine (one_calls ⟨f0, ⟨g0, g1⟩, ⟨p0, p1⟩, ⟨q0, q1⟩⟩ _).mono ?_; rw [HO.out]; rintro e w2 ⟨rfl, hb⟩; have HB2 := Aside0.mk (below_step (below_alloc HB.out _) hb); have hk2 := (Fr.of_below (B := 0) (T := []) hb).blk (blk_new wr _) (by simp); have hv0 : w2.cell? ⟨wr.heap.size, 0, none⟩ = some (.string f0) := (blk_cell hk2 0).trans rfl; clear hb hk2)
          go_quiet (fail)
          go_wp2
          go_roundg (l.length - (i + 1))
          case measure => have := HI.out; omega
          case rel => exact ⟨i + 1, by rw [HWI.out], ⟨by omega, rfl⟩, ⟨by rw [HPS.out]; exact HG.out⟩, ⟨pw_below_drewN HB2.out _⟩⟩
        · obtain ⟨j, hj⟩ : ∃ j : Nat, i = j + 1 := ⟨i - 1, by omega⟩
          have hi' : decide ((0 : Int) < (i : Int)) = true := decide_eq_true (by omega)
          have hiN : decide (0 < i) = true := decide_eq_true (by omega)
          have hwj : wrap64 ((i : Int) - 1) = (j : Int) := by have := HN.out; unfold wrap64; omega
          have hwj2 : IntKind.i64.wrap ((i : Int) - 1) = (j : Int) := by first | exact hwj | (rw [i64_w]; exact hwj)
          have hjl : (j : Int) < (l.length : Int) := by omega
          obtain ⟨ad', had, k0, _⟩ := at_T46 (Kd.C_below HC.out HB.out) (j : Int) (by omega) (by omega)
          obtain rfl : ad = ad' := by injection had
          simp only [Int.toNat_natCast] at k0
          have HPV := Aside0.mk (show prevK l i = some (rd_T46 l (j : Int)).f0 by rw [hj, prevK_succ])
          obtain ⟨key, hky⟩ : ∃ key, (rd_T46 l (j : Int)).f0 = key := ⟨_, rfl⟩
          rw [hky] at k0
          have HKY := Aside0.mk hky
          have hpv := HPV.out
          rw [hky] at hpv
          clear HPV hky
          have HPV := Aside0.mk hpv
          clear hpv
          have HJL := Aside0.mk (show j < l.length by omega)
          cases hless : lessK key f0 with
          | true =>
            have HG := Aside0.mk (show confE l = confL (some f0) (l.drop (i + 1)) by
              rw [HE2.out, HPV.out]
              simp [confL, ho, hless])
            have hl' : Op.bytesLess key.toList f0.toList = true := hless
            have hge : ∀ w, (binOp .geq 9 (.string key) (.string f0)).run Try.prog w = .ok (.bool false) w := fun w => by rw [str_geq, hl']; rfl
            clear hi hj ho hless
            go_wp2_with (go_at_call 31; refine (one_calls ⟨f0, ⟨g0, g1⟩, ⟨p0, p1⟩, ⟨q0, q1⟩⟩ _).mono ?_; rw [HO.out]; rintro e w2 ⟨rfl, hb⟩; have HB2 := Aside0.mk (below_step (below_alloc HB.out _) hb); have hk2 := (Fr.of_below (B := 0) (T := []) hb).blk (blk_new wr _) (by simp); have hv0 : w2.cell? ⟨wr.heap.size, 0, none⟩ = some (.string f0) := (blk_cell hk2 0).trans rfl; have k02 := (at_T46 (Kd.C_below HC.out HB2.out) (j : Int) (by have := HJL.out; omega) (by have := HJL.out; omega)); obtain ⟨ad2, had2, k02, _⟩ := k02; obtain rfl : ad = ad2 := (by injection had2); simp only [Int.toNat_natCast] at k02; rw [HKY.out] at k02; clear hb hk2)
            go_quiet (fail)
            go_wp2
            go_roundg (l.length - (i + 1))
            case measure => have := HI.out; omega
            case rel => exact ⟨i + 1, by rw [HWI.out], ⟨by omega, rfl⟩, ⟨by rw [HPS.out]; exact HG.out⟩, ⟨pw_below_drewN HB2.out _⟩⟩
          | false =>
            have HG := Aside0.mk (show confE l = 132 by
              rw [HE2.out, HPV.out]
              simp [confL, ho, hless])
            have hl' : Op.bytesLess key.toList f0.toList = false := hless
            have hge : ∀ w, (binOp .geq 9 (.string key) (.string f0)).run Try.prog w = .ok (.bool true) w := fun w => by rw [str_geq, hl']; rfl
            clear hi hj ho hless
            go_wp2_with (go_at_call 31; refine (one_calls ⟨f0, ⟨g0, g1⟩, ⟨p0, p1⟩, ⟨q0, q1⟩⟩ _).mono ?_; rw [HO.out]; rintro e w2 ⟨rfl, hb⟩; have HB2 := Aside0.mk (below_step (below_alloc HB.out _) hb); have hk2 := (Fr.of_below (B := 0) (T := []) hb).blk (blk_new wr _) (by simp); have hv0 : w2.cell? ⟨wr.heap.size, 0, none⟩ = some (.string f0) := (blk_cell hk2 0).trans rfl; have k02 := (at_T46 (Kd.C_below HC.out HB2.out) (j : Int) (by have := HJL.out; omega) (by have := HJL.out; omega)); obtain ⟨ad2, had2, k02, _⟩ := k02; obtain rfl : ad = ad2 := (by injection had2); simp only [Int.toNat_natCast] at k02; rw [HKY.out] at k02; clear hb hk2)
            go_quiet (fail)
            go_wp2
            go_ret
            rw [HG.out]
            exact ⟨rfl, pw_below_drewN HB2.out _⟩
      · have HG := Aside0.mk (show confE l = oneE ⟨f0, ⟨g0, g1⟩, ⟨p0, p1⟩, ⟨q0, q1⟩⟩ by
          rw [HE2.out]
          simp [confL, ho])
        have ho' : (oneE ⟨f0, ⟨g0, g1⟩, ⟨p0, p1⟩, ⟨q0, q1⟩⟩ != 0) = true := bne_iff_ne.mpr ho
        clear ho
        go_wp2_with (go_at_call 31; refine (one_calls ⟨f0, ⟨g0, g1⟩, ⟨p0, p1⟩, ⟨q0, q1⟩⟩ _).mono ?_; rintro e w2 ⟨rfl, hb⟩; have HB2 := Aside0.mk (below_step (below_alloc HB.out _) hb); clear hb)
        go_ret
        rw [HG.out]
        exact ⟨rfl, HB2.out⟩
    · have hI : i = l.length := by have := HI.out; omega
      subst hI
      have hE := HE.out
      rw [List.drop_length] at hE
      have HG := Aside0.mk (show confE l = 0 from hE)
      clear hE
      go_wp2
      go_ret
      rw [HG.out]
      exact ⟨rfl, HB.out⟩
end Go.Proofs.Yteaepfdahdenmaa.Sep
