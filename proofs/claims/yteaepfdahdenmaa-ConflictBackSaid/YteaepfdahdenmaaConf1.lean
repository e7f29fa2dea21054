/- Which clashes may be: the program's side, one, Right. Printed by gen1.py. Conditions: the bounds of the statements. -/
import Derived.Test.YteaepfdahdenmaaCodec
import Derived.Test.YteaepfdahdenmaaPackPut
import Derived.Test.YteaepfdahdenmaaPDatx4
import Derived.Deep.RegionWith
import Derived.BigQuiet
namespace Go.Proofs.Yteaepfdahdenmaa.Sep
set_option linter.unusedSimpArgs false
set_option linter.unusedVariables false
open Go.RowKit Go.Proofs.Yteaepfdahdenmaa.PCore Go.Proofs.Yteaepfdahdenmaa.Plain Go.Proofs.YteaepfdahdenmaaW.PrintWords Go.Proofs.YteaepfdahdenmaaW.PrintLast Go.Proofs.YteaepfdahdenmaaW.PrintMore
open Go.Proofs.Yteaepfdahdenmaa.PDat (S44 k44 z44 rd_T44 at_T44 S46 k46 z46 rd_T46 at_T46 node_Key.f node_Key.calls node_Val.f node_Val.calls conflict_side.f conflict_side.calls)
attribute [local go_sem high] Go.Proofs.Yteaepfdahdenmaa.PDat.eqA44
abbrev Side := S44
abbrev Clash := S46
/-- What is wrong with a key. -/
def keyE (k : ByteArray) : Int := if (k.size : Int) < 1 then 100 else if (k.size : Int) > 40 then 100 else 0
/-- What is wrong with a side. -/
def sideE (s : Side) : Int := if (s.f1.size : Int) > 200 then 101 else if s.f0 = true then 0 else if s.f1.toList = ([] : List UInt8) then 0 else 101
/-- Whether sides are alike. -/
def sideEq (s t : Side) : Bool := s.f0 == t.f0 && (s.f1.toList == t.f1.toList)
/-- Whether two of a clash's sides are alike. -/
def twin (c : Clash) : Bool := sideEq c.f2 c.f3 || (sideEq c.f2 c.f1 || sideEq c.f3 c.f1)
/-- What is wrong with a clash. -/
def oneE (c : Clash) : Int := if keyE c.f0 ≠ 0 then keyE c.f0 else if sideE c.f1 ≠ 0 then sideE c.f1 else if sideE c.f2 ≠ 0 then sideE c.f2 else if sideE c.f3 ≠ 0 then sideE c.f3 else if twin c = true then 132 else 0
theorem key_calls (k : ByteArray) (w : World) : Calls Try.prog 45 #[.string k] w fun e w' => e = .returned (.int .i64 (keyE k)) ∧ Below w.heap.size w w' := by
  have h : node_Key.f k = some (keyE k) := by
    unfold node_Key.f keyE
    split
    · rfl
    · split <;> rfl
  exact (node_Key.calls k _ w h).mono fun e w' ⟨h1, h2⟩ => ⟨h1, by first | exact h2 | exact h2.below⟩
theorem val_form (v : ByteArray) : node_Val.f v = some (if (v.size : Int) > 200 then 101 else 0) := by
  unfold node_Val.f
  split <;> rfl
theorem side_calls (s : Side) (w : World) : Calls Try.prog 46 #[.agg #[.bool s.f0, .string s.f1]] w fun e w' => e = .returned (.int .i64 (sideE s)) ∧ Below w.heap.size w w' := by
  have h : conflict_side.f s.f0 s.f1 = some (sideE s) := by
    unfold conflict_side.f sideE
    rw [val_form]
    by_cases h1 : (s.f1.size : Int) > 200
    · simp [h1]
    · simp only [h1, if_false, Option.bind_some, if_true]
      split
      · rfl
      · split <;> rfl
  exact (conflict_side.calls s.f0 s.f1 _ w h).mono fun e w' ⟨h1, h2⟩ => ⟨h1, by first | exact h2 | exact h2.below⟩
/-- A clash's variable. -/
abbrev claCells (c : Clash) : Array Value := #[.string c.f0, .bool c.f1.f0, .string c.f1.f1, .bool c.f2.f0, .string c.f2.f1, .bool c.f3.f0, .string c.f3.f1]
theorem cla_cells {w : World} {g : Nat} {c : Clash} (h : w.heap[g]? = some (.cells (claCells c) 46 (0, 0))) :
    w.cell? ⟨g, 0, none⟩ = some (.string c.f0) ∧ w.cell? ⟨g, 1, none⟩ = some (.bool c.f1.f0) ∧ w.cell? ⟨g, 2, none⟩ = some (.string c.f1.f1) ∧ w.cell? ⟨g, 3, none⟩ = some (.bool c.f2.f0) ∧ w.cell? ⟨g, 4, none⟩ = some (.string c.f2.f1) ∧ w.cell? ⟨g, 5, none⟩ = some (.bool c.f3.f0) ∧ w.cell? ⟨g, 6, none⟩ = some (.string c.f3.f1) :=
  ⟨(blk_cell h 0).trans rfl, (blk_cell h 1).trans rfl, (blk_cell h 2).trans rfl, (blk_cell h 3).trans rfl, (blk_cell h 4).trans rfl, (blk_cell h 5).trans rfl, (blk_cell h 6).trans rfl⟩
/-- A clash's side, by its place. -/
def sideAt (c : Clash) (i : Nat) : Side := if i = 0 then c.f1 else if i = 1 then c.f2 else c.f3
theorem idx0 (a c e : Bool) (b d f : ByteArray) (w : World) : (Instr.index 53 (.agg #[.bool a, .string b, .bool c, .string d, .bool e, .string f]) (.int .i64 0)).run Try.prog w = .ok (.agg #[.bool a, .string b]) w := by
  first | rfl | kernel_rfl
theorem idx1 (a c e : Bool) (b d f : ByteArray) (w : World) : (Instr.index 53 (.agg #[.bool a, .string b, .bool c, .string d, .bool e, .string f]) (.int .i64 1)).run Try.prog w = .ok (.agg #[.bool c, .string d]) w := by
  first | rfl | kernel_rfl
theorem idx2 (a c e : Bool) (b d f : ByteArray) (w : World) : (Instr.index 53 (.agg #[.bool a, .string b, .bool c, .string d, .bool e, .string f]) (.int .i64 2)).run Try.prog w = .ok (.agg #[.bool e, .string f]) w := by
  first | rfl | kernel_rfl
set_option maxHeartbeats 8000000 in
set_option maxRecDepth 100000 in
theorem one_calls (c : Clash) (W : World) : Calls Try.prog 31 #[.agg (claCells c)] W fun e W1 => e = .returned (.int .i64 (oneE c)) ∧ Below W.heap.size W W1 := by
  obtain ⟨f0, ⟨g0, g1⟩, ⟨p0, p1⟩, ⟨q0, q1⟩⟩ := c
  have huF := Try.underlying46
  have huS := Try.underlying44
  have hi0 := fun w => idx0 g0 p0 q0 g1 p1 q1 w
  have hi1 := fun w => idx1 g0 p0 q0 g1 p1 q1 w
  have hi2 := fun w => idx2 g0 p0 q0 g1 p1 q1 w
  by_cases hk : keyE f0 = 0
  · have HK := Aside0.mk hk
    go_enter Try.func31, Try.ntmps31
    go_wp2_with (go_at_call 45; refine (key_calls f0 _).mono ?_; rw [hk]; rintro e w1 ⟨rfl, hb⟩; have HB1 := Aside0.mk hb; obtain ⟨a0, a1, a2, a3, a4, a5, a6⟩ := cla_cells (c := ⟨f0, ⟨g0, g1⟩, ⟨p0, p1⟩, ⟨q0, q1⟩⟩) ((Fr.of_below (B := 0) (T := []) hb).blk (blk_new W _) (by simp)); simp only at a0 a1 a2 a3 a4 a5 a6; clear hb)
    have HX := Aside0.mk (show Below (W.alloc (.cells (claCells ⟨f0, ⟨g0, g1⟩, ⟨p0, p1⟩, ⟨q0, q1⟩⟩) 46)).heap.size (W.alloc (.cells (claCells ⟨f0, ⟨g0, g1⟩, ⟨p0, p1⟩, ⟨q0, q1⟩⟩) 46)) w1 from HB1.out)
    have HBX := Aside0.mk (below_alloc (Below.refl W.heap.size W) (.cells (claCells ⟨f0, ⟨g0, g1⟩, ⟨p0, p1⟩, ⟨q0, q1⟩⟩) 46))
    clear HB1
    go_loopg [20] 3 (fun kq v20 w' => ∃ i : Nat, v20 = .int .i64 i ∧ Aside0 (i ≤ 3 ∧ kq = 3 - i) ∧ Aside0 (∀ j : Nat, j < i → sideE (sideAt ⟨f0, ⟨g0, g1⟩, ⟨p0, p1⟩, ⟨q0, q1⟩⟩ j) = 0) ∧ Aside0 (Below (W.alloc (.cells (claCells ⟨f0, ⟨g0, g1⟩, ⟨p0, p1⟩, ⟨q0, q1⟩⟩) 46)).heap.size (W.alloc (.cells (claCells ⟨f0, ⟨g0, g1⟩, ⟨p0, p1⟩, ⟨q0, q1⟩⟩) 46)) w'))
    case atStart => exact ⟨0, rfl, ⟨by omega, by omega⟩, ⟨fun j hj => by omega⟩, ⟨HX.out⟩⟩
    case round =>
      obtain ⟨i, rfl, HI, HA, HB⟩ := hrel
      clear a0 a1 a2 a3 a4 a5 a6
      rcases (show i = 0 ∨ i = 1 ∨ i = 2 ∨ i = 3 by have := HI.out; omega) with rfl | rfl | rfl | rfl
      · by_cases hs : sideE ⟨g0, g1⟩ = 0
        · have HS := Aside0.mk hs
          go_wp2_with (go_at_call 46; refine (side_calls ⟨g0, g1⟩ _).mono ?_; rw [HS.out]; rintro e w2 ⟨rfl, hb⟩; have HB2 := Aside0.mk (below_step (below_alloc HB.out _) hb); clear hb)
          go_roundg 2
          case measure => have := HI.out; omega
          case rel => exact ⟨1, rfl, ⟨by omega, by omega⟩, ⟨fun j hj => by
            rcases (show j < 0 ∨ j = 0 by omega) with h | rfl
            · exact HA.out j h
            · exact HS.out⟩, ⟨HB2.out⟩⟩
        · have hs' : (sideE ⟨g0, g1⟩ != 0) = true := bne_iff_ne.mpr hs
          have HE := Aside0.mk (show oneE ⟨f0, ⟨g0, g1⟩, ⟨p0, p1⟩, ⟨q0, q1⟩⟩ = sideE ⟨g0, g1⟩ by
            unfold oneE
            rw [if_neg (by simpa using HK.out)]
            rw [if_pos hs])
          clear hs
          go_wp2_with (go_at_call 46; refine (side_calls ⟨g0, g1⟩ _).mono ?_; rintro e w2 ⟨rfl, hb⟩; have HB2 := Aside0.mk (below_step (below_alloc HB.out _) hb); clear hb)
          go_ret
          rw [HE.out]
          exact ⟨rfl, below_step HBX.out HB2.out⟩
      · by_cases hs : sideE ⟨p0, p1⟩ = 0
        · have HS := Aside0.mk hs
          go_wp2_with (go_at_call 46; refine (side_calls ⟨p0, p1⟩ _).mono ?_; rw [HS.out]; rintro e w2 ⟨rfl, hb⟩; have HB2 := Aside0.mk (below_step (below_alloc HB.out _) hb); clear hb)
          go_roundg 1
          case measure => have := HI.out; omega
          case rel => exact ⟨2, rfl, ⟨by omega, by omega⟩, ⟨fun j hj => by
            rcases (show j < 1 ∨ j = 1 by omega) with h | rfl
            · exact HA.out j h
            · exact HS.out⟩, ⟨HB2.out⟩⟩
        · have hs' : (sideE ⟨p0, p1⟩ != 0) = true := bne_iff_ne.mpr hs
          have HE := Aside0.mk (show oneE ⟨f0, ⟨g0, g1⟩, ⟨p0, p1⟩, ⟨q0, q1⟩⟩ = sideE ⟨p0, p1⟩ by
            unfold oneE
            rw [if_neg (by simpa using HK.out)]
            rw [if_neg (by have := HA.out 0 (by omega); simpa [sideAt] using this)]
            rw [if_pos hs])
          clear hs
          go_wp2_with (go_at_call 46; refine (side_calls ⟨p0, p1⟩ _).mono ?_; rintro e w2 ⟨rfl, hb⟩; have HB2 := Aside0.mk (below_step (below_alloc HB.out _) hb); clear hb)
          go_ret
          rw [HE.out]
          exact ⟨rfl, below_step HBX.out HB2.out⟩
      · by_cases hs : sideE ⟨q0, q1⟩ = 0
        · have HS := Aside0.mk hs
          go_wp2_with (go_at_call 46; refine (side_calls ⟨q0, q1⟩ _).mono ?_; rw [HS.out]; rintro e w2 ⟨rfl, hb⟩; have HB2 := Aside0.mk (below_step (below_alloc HB.out _) hb); clear hb)
          go_roundg 0
          case measure => have := HI.out; omega
          case rel => exact ⟨3, rfl, ⟨by omega, by omega⟩, ⟨fun j hj => by
            rcases (show j < 2 ∨ j = 2 by omega) with h | rfl
            · exact HA.out j h
            · exact HS.out⟩, ⟨HB2.out⟩⟩
        · have hs' : (sideE ⟨q0, q1⟩ != 0) = true := bne_iff_ne.mpr hs
          have HE := Aside0.mk (show oneE ⟨f0, ⟨g0, g1⟩, ⟨p0, p1⟩, ⟨q0, q1⟩⟩ = sideE ⟨q0, q1⟩ by
            unfold oneE
            rw [if_neg (by simpa using HK.out)]
            rw [if_neg (by have := HA.out 0 (by omega); simpa [sideAt] using this)]
            rw [if_neg (by have := HA.out 1 (by omega); simpa [sideAt] using this)]
            rw [if_pos hs])
          clear hs
          go_wp2_with (go_at_call 46; refine (side_calls ⟨q0, q1⟩ _).mono ?_; rintro e w2 ⟨rfl, hb⟩; have HB2 := Aside0.mk (below_step (below_alloc HB.out _) hb); clear hb)
          go_ret
          rw [HE.out]
          exact ⟨rfl, below_step HBX.out HB2.out⟩
      · obtain ⟨a0, a1, a2, a3, a4, a5, a6⟩ := cla_cells (c := ⟨f0, ⟨g0, g1⟩, ⟨p0, p1⟩, ⟨q0, q1⟩⟩) ((Fr.of_below (B := 0) (T := []) HB.out).blk (blk_new W _) (by simp))
        simp only at a0 a1 a2 a3 a4 a5 a6
        have HO := Aside0.mk (show oneE ⟨f0, ⟨g0, g1⟩, ⟨p0, p1⟩, ⟨q0, q1⟩⟩ = if twin ⟨f0, ⟨g0, g1⟩, ⟨p0, p1⟩, ⟨q0, q1⟩⟩ = true then 132 else 0 by
          unfold oneE
          rw [if_neg (by simpa using HK.out), if_neg (by have := HA.out 0 (by omega); simpa [sideAt] using this), if_neg (by have := HA.out 1 (by omega); simpa [sideAt] using this), if_neg (by have := HA.out 2 (by omega); simpa [sideAt] using this)])
        cases h1 : (p0 == q0 && (p1.toList == q1.toList)) with
        | true =>
          have HE := Aside0.mk (show oneE ⟨f0, ⟨g0, g1⟩, ⟨p0, p1⟩, ⟨q0, q1⟩⟩ = 132 by rw [HO.out, if_pos (by simp [twin, sideEq, h1])])
          go_wp2
          go_ret
          rw [HE.out]
          exact ⟨rfl, below_step HBX.out HB.out⟩
        | false =>
          cases h2 : (p0 == g0 && (p1.toList == g1.toList)) with
          | true =>
            have HE := Aside0.mk (show oneE ⟨f0, ⟨g0, g1⟩, ⟨p0, p1⟩, ⟨q0, q1⟩⟩ = 132 by rw [HO.out, if_pos (by simp [twin, sideEq, h2])])
            go_wp2
            go_ret
            rw [HE.out]
            exact ⟨rfl, below_step HBX.out HB.out⟩
          | false =>
            cases h3 : (q0 == g0 && (q1.toList == g1.toList)) with
            | true =>
              have HE := Aside0.mk (show oneE ⟨f0, ⟨g0, g1⟩, ⟨p0, p1⟩, ⟨q0, q1⟩⟩ = 132 by rw [HO.out, if_pos (by simp [twin, sideEq, h3])])
              go_wp2
              go_ret
              rw [HE.out]
              exact ⟨rfl, below_step HBX.out HB.out⟩
            | false =>
              have HE := Aside0.mk (show oneE ⟨f0, ⟨g0, g1⟩, ⟨p0, p1⟩, ⟨q0, q1⟩⟩ = 0 by rw [HO.out, if_neg (by simp only [twin, sideEq, h1, h2, h3]; decide)])
              go_wp2
              go_ret
              rw [HE.out]
              exact ⟨rfl, below_step HBX.out HB.out⟩
  · have hk' : (keyE f0 != 0) = true := bne_iff_ne.mpr hk
    have HE := Aside0.mk (show oneE ⟨f0, ⟨g0, g1⟩, ⟨p0, p1⟩, ⟨q0, q1⟩⟩ = keyE f0 by unfold oneE; rw [if_pos hk])
    clear hk
    go_enter Try.func31, Try.ntmps31
    go_wp2_with (go_at_call 45; refine (key_calls f0 _).mono ?_; rintro e w1 ⟨rfl, hb⟩; have HB1 := Aside0.mk hb; clear hb)
    go_ret
    rw [HE.out]
    exact ⟨rfl, below_step (below_alloc (Below.refl _ _) _) HB1.out⟩
end Go.Proofs.Yteaepfdahdenmaa.Sep
