/- Which clashes may be: the program's side, one, Right. Printed by gen1.py. Conditions: the bounds of the statements. · Which clashes may be: the program's Right. Printed by gen2.py. Conditions: the bounds of the statements. · Clashes' bytes: the program's Put. Printed by gen4.py. Conditions: the bounds of the statements. · Clashes told of bytes: plain; and the program's read. Conditions: the bounds of the statements. · Clashes told of bytes: the program's Of. Printed by gen7.py. Conditions: the bounds of the statements. · Clashes alike, small; what Put and Of tell. (conf10's, without the reference's part.) Conditions: the bounds of the statements. -/
import Derived.Test.YtabfjjcbceibpaaCodec
import Derived.Test.YtabfjjcbceibpaaPackPut
import Derived.Test.YtabfjjcbceibpaaPDatx
import Derived.Deep.RegionWith
import Derived.BigQuiet
import Derived.Test.YtabfjjcbceibpaaOpenS
namespace Go.Proofs.Ytabfjjcbceibpaa.Sep
set_option linter.unusedSimpArgs false
set_option linter.unusedVariables false
open Go.RowKit Go.Proofs.Ytabfjjcbceibpaa.PCore Go.Proofs.Ytabfjjcbceibpaa.Plain Go.Proofs.YtabfjjcbceibpaaW.PrintWords Go.Proofs.YtabfjjcbceibpaaW.PrintLast Go.Proofs.YtabfjjcbceibpaaW.PrintMore
open Go.Proofs.Ytabfjjcbceibpaa.PDat (S72 k72 z72 rd_T72 at_T72 S74 k74 z74 rd_T74 at_T74 node_Key.f node_Key.calls node_Val.f node_Val.calls conflict_side.f conflict_side.calls)
attribute [local go_sem high] Go.Proofs.Ytabfjjcbceibpaa.PDat.eqA72
abbrev Side := S72
abbrev Clash := S74
/-- What is wrong with a key. -/
def keyE (k : ByteArray) : Int := if (k.size : Int) < 1 then 100 else if (k.size : Int) > 40 then 100 else 0
/-- What is wrong with a side. -/
def sideE (s : Side) : Int := if (s.f1.size : Int) > 200 then 101 else if s.f0 = true then 0 else if s.f1.toList = ([] : List UInt8) then 0 else 101
/-- Whether sides are alike. -/
def sideEq (s t : Side) : Bool := s.f0 == t.f0 && (s.f1.toList == t.f1.toList)
/-- Whether two of a clash's sides are alike. -/
def twin (c : Clash) : Bool := sideEq c.f2 c.f3 || (sideEq c.f2 c.f1 || sideEq c.f3 c.f1)
/-- What is wrong with a clash. -/
def oneE (c : Clash) : Int := if keyE c.f0 ≠ 0 then keyE c.f0 else if sideE c.f1 ≠ 0 then sideE c.f1 else if sideE c.f2 ≠ 0 then sideE c.f2 else if sideE c.f3 ≠ 0 then sideE c.f3 else if twin c = true then 132 else 0
theorem key_calls (k : ByteArray) (w : World) : Calls Try.prog 62 #[.string k] w fun e w' => e = .returned (.int .i64 (keyE k)) ∧ Below w.heap.size w w' := by
  have h : node_Key.f k = some (keyE k) := by
    unfold node_Key.f keyE
    split
    · rfl
    · split <;> rfl
  exact (node_Key.calls k _ w h).mono fun e w' ⟨h1, h2⟩ => ⟨h1, by first | exact h2 | exact h2.below⟩
theorem val_form (v : ByteArray) : node_Val.f v = some (if (v.size : Int) > 200 then 101 else 0) := by
  unfold node_Val.f
  split <;> rfl
theorem side_calls (s : Side) (w : World) : Calls Try.prog 63 #[.agg #[.bool s.f0, .string s.f1]] w fun e w' => e = .returned (.int .i64 (sideE s)) ∧ Below w.heap.size w w' := by
  have h : conflict_side.f s.f0 s.f1 = some (sideE s) := by
    unfold conflict_side.f sideE
    rw [val_form]
    by_cases h1 : (s.f1.size : Int) > 200
    · simp [h1]
    · simp only [h1, if_false, Option.bind_some, if_true]
      split
      · rfl
      · split <;> rfl
  exact (conflict_side.calls s.f0 s.f1 _ w h).mono fun e w' ⟨h1, h2⟩ => ⟨h1, by first | exact h2 | exact h2.below⟩
/-- A clash's variable. -/
abbrev claCells (c : Clash) : Array Value := #[.string c.f0, .bool c.f1.f0, .string c.f1.f1, .bool c.f2.f0, .string c.f2.f1, .bool c.f3.f0, .string c.f3.f1]
theorem cla_cells {w : World} {g : Nat} {c : Clash} (h : w.heap[g]? = some (.cells (claCells c) 74 (0, 0))) :
    w.cell? ⟨g, 0, none⟩ = some (.string c.f0) ∧ w.cell? ⟨g, 1, none⟩ = some (.bool c.f1.f0) ∧ w.cell? ⟨g, 2, none⟩ = some (.string c.f1.f1) ∧ w.cell? ⟨g, 3, none⟩ = some (.bool c.f2.f0) ∧ w.cell? ⟨g, 4, none⟩ = some (.string c.f2.f1) ∧ w.cell? ⟨g, 5, none⟩ = some (.bool c.f3.f0) ∧ w.cell? ⟨g, 6, none⟩ = some (.string c.f3.f1) :=
  ⟨(blk_cell h 0).trans rfl, (blk_cell h 1).trans rfl, (blk_cell h 2).trans rfl, (blk_cell h 3).trans rfl, (blk_cell h 4).trans rfl, (blk_cell h 5).trans rfl, (blk_cell h 6).trans rfl⟩
/-- A clash's side, by its place. -/
def sideAt (c : Clash) (i : Nat) : Side := if i = 0 then c.f1 else if i = 1 then c.f2 else c.f3
set_option maxRecDepth 100000 in
theorem idx0 (a c e : Bool) (b d f : ByteArray) (w : World) : (Instr.index 91 (.agg #[.bool a, .string b, .bool c, .string d, .bool e, .string f]) (.int .i64 0)).run Try.prog w = .ok (.agg #[.bool a, .string b]) w := by
  first | rfl | kernel_rfl
set_option maxRecDepth 100000 in
theorem idx1 (a c e : Bool) (b d f : ByteArray) (w : World) : (Instr.index 91 (.agg #[.bool a, .string b, .bool c, .string d, .bool e, .string f]) (.int .i64 1)).run Try.prog w = .ok (.agg #[.bool c, .string d]) w := by
  first | rfl | kernel_rfl
set_option maxRecDepth 100000 in
theorem idx2 (a c e : Bool) (b d f : ByteArray) (w : World) : (Instr.index 91 (.agg #[.bool a, .string b, .bool c, .string d, .bool e, .string f]) (.int .i64 2)).run Try.prog w = .ok (.agg #[.bool e, .string f]) w := by
  first | rfl | kernel_rfl
set_option maxHeartbeats 8000000 in
set_option maxRecDepth 100000 in
theorem one_calls (c : Clash) (W : World) : Calls Try.prog 55 #[.agg (claCells c)] W fun e W1 => e = .returned (.int .i64 (oneE c)) ∧ Below W.heap.size W W1 := by
  obtain ⟨f0, ⟨g0, g1⟩, ⟨p0, p1⟩, ⟨q0, q1⟩⟩ := c
  have huF := Try.underlying74
  have huS := Try.underlying72
  have hi0 := fun w => idx0 g0 p0 q0 g1 p1 q1 w
  have hi1 := fun w => idx1 g0 p0 q0 g1 p1 q1 w
  have hi2 := fun w => idx2 g0 p0 q0 g1 p1 q1 w
  by_cases hk : keyE f0 = 0
  · have HK := Aside0.mk hk
    go_enter Try.func55, Try.ntmps55
    go_wp2_with (go_at_call 62; refine (key_calls f0 _).mono ?_; rw [hk]; rintro e w1 ⟨rfl, hb⟩; have HB1 := Aside0.mk hb; obtain ⟨a0, a1, a2, a3, a4, a5, a6⟩ := cla_cells (c := ⟨f0, ⟨g0, g1⟩, ⟨p0, p1⟩, ⟨q0, q1⟩⟩) ((Fr.of_below (B := 0) (T := []) hb).blk (blk_new W _) (by simp)); simp only at a0 a1 a2 a3 a4 a5 a6; clear hb)
    have HX := Aside0.mk (show Below (W.alloc (.cells (claCells ⟨f0, ⟨g0, g1⟩, ⟨p0, p1⟩, ⟨q0, q1⟩⟩) 74)).heap.size (W.alloc (.cells (claCells ⟨f0, ⟨g0, g1⟩, ⟨p0, p1⟩, ⟨q0, q1⟩⟩) 74)) w1 from HB1.out)
    have HBX := Aside0.mk (below_alloc (Below.refl W.heap.size W) (.cells (claCells ⟨f0, ⟨g0, g1⟩, ⟨p0, p1⟩, ⟨q0, q1⟩⟩) 74))
    clear HB1
    go_loopg [20] 3 (fun kq v20 w' => ∃ i : Nat, v20 = .int .i64 i ∧ Aside0 (i ≤ 3 ∧ kq = 3 - i) ∧ Aside0 (∀ j : Nat, j < i → sideE (sideAt ⟨f0, ⟨g0, g1⟩, ⟨p0, p1⟩, ⟨q0, q1⟩⟩ j) = 0) ∧ Aside0 (Below (W.alloc (.cells (claCells ⟨f0, ⟨g0, g1⟩, ⟨p0, p1⟩, ⟨q0, q1⟩⟩) 74)).heap.size (W.alloc (.cells (claCells ⟨f0, ⟨g0, g1⟩, ⟨p0, p1⟩, ⟨q0, q1⟩⟩) 74)) w'))
    case atStart => exact ⟨0, rfl, ⟨by omega, by omega⟩, ⟨fun j hj => by omega⟩, ⟨HX.out⟩⟩
    case round =>
      obtain ⟨i, rfl, HI, HA, HB⟩ := hrel
      clear a0 a1 a2 a3 a4 a5 a6
      rcases (show i = 0 ∨ i = 1 ∨ i = 2 ∨ i = 3 by have := HI.out; omega) with rfl | rfl | rfl | rfl
      · by_cases hs : sideE ⟨g0, g1⟩ = 0
        · have HS := Aside0.mk hs
          go_wp2_with (go_at_call 63; refine (side_calls ⟨g0, g1⟩ _).mono ?_; rw [HS.out]; rintro e w2 ⟨rfl, hb⟩; have HB2 := Aside0.mk (below_step (below_alloc HB.out _) hb); clear hb)
          go_roundg 2
          case measure => have := HI.out; omega
          case rel => exact ⟨1, rfl, ⟨by omega, by omega⟩, ⟨fun j hj => by
            rcases (show j < 0 ∨ j = 0 by omega) with h | rfl
            · exact HA.out j h
            · exact HS.out⟩, ⟨HB2.out⟩⟩
        · have hs' : (sideE ⟨g0, g1⟩ != 0) = true := bne_iff_ne.mpr hs
          have HE := Aside0.mk (show oneE ⟨f0, ⟨g0, g1⟩, ⟨p0, p1⟩, ⟨q0, q1⟩⟩ = sideE ⟨g0, g1⟩ by
            unfold oneE
            rw [if_neg (by simpa using HK.out)]
            rw [if_pos hs])
          clear hs
          go_wp2_with (go_at_call 63; refine (side_calls ⟨g0, g1⟩ _).mono ?_; rintro e w2 ⟨rfl, hb⟩; have HB2 := Aside0.mk (below_step (below_alloc HB.out _) hb); clear hb)
          go_ret
          rw [HE.out]
          exact ⟨rfl, below_step HBX.out HB2.out⟩
      · by_cases hs : sideE ⟨p0, p1⟩ = 0
        · have HS := Aside0.mk hs
          go_wp2_with (go_at_call 63; refine (side_calls ⟨p0, p1⟩ _).mono ?_; rw [HS.out]; rintro e w2 ⟨rfl, hb⟩; have HB2 := Aside0.mk (below_step (below_alloc HB.out _) hb); clear hb)
          go_roundg 1
          case measure => have := HI.out; omega
          case rel => exact ⟨2, rfl, ⟨by omega, by omega⟩, ⟨fun j hj => by
            rcases (show j < 1 ∨ j = 1 by omega) with h | rfl
            · exact HA.out j h
            · exact HS.out⟩, ⟨HB2.out⟩⟩
        · have hs' : (sideE ⟨p0, p1⟩ != 0) = true := bne_iff_ne.mpr hs
          have HE := Aside0.mk (show oneE ⟨f0, ⟨g0, g1⟩, ⟨p0, p1⟩, ⟨q0, q1⟩⟩ = sideE ⟨p0, p1⟩ by
            unfold oneE
            rw [if_neg (by simpa using HK.out)]
            rw [if_neg (by have := HA.out 0 (by omega); simpa [sideAt] using this)]
            rw [if_pos hs])
          clear hs
          go_wp2_with (go_at_call 63; refine (side_calls ⟨p0, p1⟩ _).mono ?_; rintro e w2 ⟨rfl, hb⟩; have HB2 := Aside0.mk (below_step (below_alloc HB.out _) hb); clear hb)
          go_ret
          rw [HE.out]
          exact ⟨rfl, below_step HBX.out HB2.out⟩
      · by_cases hs : sideE ⟨q0, q1⟩ = 0
        · have HS := Aside0.mk hs
          go_wp2_with (go_at_call 63; refine (side_calls ⟨q0, q1⟩ _).mono ?_; rw [HS.out]; rintro e w2 ⟨rfl, hb⟩; have HB2 := Aside0.mk (below_step (below_alloc HB.out _) hb); clear hb)
          go_roundg 0
          case measure => have := HI.out; omega
          case rel => exact ⟨3, rfl, ⟨by omega, by omega⟩, ⟨fun j hj => by
            rcases (show j < 2 ∨ j = 2 by omega) with h | rfl
            · exact HA.out j h
            · exact HS.out⟩, ⟨HB2.out⟩⟩
        · have hs' : (sideE ⟨q0, q1⟩ != 0) = true := bne_iff_ne.mpr hs
          have HE := Aside0.mk (show oneE ⟨f0, ⟨g0, g1⟩, ⟨p0, p1⟩, ⟨q0, q1⟩⟩ = sideE ⟨q0, q1⟩ by
            unfold oneE
            rw [if_neg (by simpa using HK.out)]
            rw [if_neg (by have := HA.out 0 (by omega); simpa [sideAt] using this)]
            rw [if_neg (by have := HA.out 1 (by omega); simpa [sideAt] using this)]
            rw [if_pos hs])
          clear hs
          go_wp2_with (go_at_call 63; refine (side_calls ⟨q0, q1⟩ _).mono ?_; rintro e w2 ⟨rfl, hb⟩; have HB2 := Aside0.mk (below_step (below_alloc HB.out _) hb); clear hb)
          go_ret
          rw [HE.out]
          exact ⟨rfl, below_step HBX.out HB2.out⟩
      · obtain ⟨a0, a1, a2, a3, a4, a5, a6⟩ := cla_cells (c := ⟨f0, ⟨g0, g1⟩, ⟨p0, p1⟩, ⟨q0, q1⟩⟩) ((Fr.of_below (B := 0) (T := []) HB.out).blk (blk_new W _) (by simp))
        simp only at a0 a1 a2 a3 a4 a5 a6
        have HO := Aside0.mk (show oneE ⟨f0, ⟨g0, g1⟩, ⟨p0, p1⟩, ⟨q0, q1⟩⟩ = if twin ⟨f0, ⟨g0, g1⟩, ⟨p0, p1⟩, ⟨q0, q1⟩⟩ = true then 132 else 0 by
          unfold oneE
          rw [if_neg (by simpa using HK.out), if_neg (by have := HA.out 0 (by omega); simpa [sideAt] using this), if_neg (by have := HA.out 1 (by omega); simpa [sideAt] using this), if_neg (by have := HA.out 2 (by omega); simpa [sideAt] using this)])
        cases h1 : (p0 == q0 && (p1.toList == q1.toList)) with
        | true =>
          have HE := Aside0.mk (show oneE ⟨f0, ⟨g0, g1⟩, ⟨p0, p1⟩, ⟨q0, q1⟩⟩ = 132 by rw [HO.out, if_pos (by simp [twin, sideEq, h1])])
          go_wp2
          go_ret
          rw [HE.out]
          exact ⟨rfl, below_step HBX.out HB.out⟩
        | false =>
          cases h2 : (p0 == g0 && (p1.toList == g1.toList)) with
          | true =>
            have HE := Aside0.mk (show oneE ⟨f0, ⟨g0, g1⟩, ⟨p0, p1⟩, ⟨q0, q1⟩⟩ = 132 by rw [HO.out, if_pos (by simp [twin, sideEq, h2])])
            go_wp2
            go_ret
            rw [HE.out]
            exact ⟨rfl, below_step HBX.out HB.out⟩
          | false =>
            cases h3 : (q0 == g0 && (q1.toList == g1.toList)) with
            | true =>
              have HE := Aside0.mk (show oneE ⟨f0, ⟨g0, g1⟩, ⟨p0, p1⟩, ⟨q0, q1⟩⟩ = 132 by rw [HO.out, if_pos (by simp [twin, sideEq, h3])])
              go_wp2
              go_ret
              rw [HE.out]
              exact ⟨rfl, below_step HBX.out HB.out⟩
            | false =>
              have HE := Aside0.mk (show oneE ⟨f0, ⟨g0, g1⟩, ⟨p0, p1⟩, ⟨q0, q1⟩⟩ = 0 by rw [HO.out, if_neg (by simp only [twin, sideEq, h1, h2, h3]; decide)])
              go_wp2
              go_ret
              rw [HE.out]
              exact ⟨rfl, below_step HBX.out HB.out⟩
  · have hk' : (keyE f0 != 0) = true := bne_iff_ne.mpr hk
    have HE := Aside0.mk (show oneE ⟨f0, ⟨g0, g1⟩, ⟨p0, p1⟩, ⟨q0, q1⟩⟩ = keyE f0 by unfold oneE; rw [if_pos hk])
    clear hk
    go_enter Try.func55, Try.ntmps55
    go_wp2_with (go_at_call 62; refine (key_calls f0 _).mono ?_; rintro e w1 ⟨rfl, hb⟩; have HB1 := Aside0.mk hb; clear hb)
    go_ret
    rw [HE.out]
    exact ⟨rfl, below_step (below_alloc (Below.refl _ _) _) HB1.out⟩
end Go.Proofs.Ytabfjjcbceibpaa.Sep
namespace Go.Proofs.Ytabfjjcbceibpaa.Sep
set_option linter.unusedSimpArgs false
set_option linter.unusedVariables false
open Go.RowKit Go.Proofs.Ytabfjjcbceibpaa.PCore Go.Proofs.Ytabfjjcbceibpaa.Plain Go.Proofs.YtabfjjcbceibpaaW.PrintWords Go.Proofs.YtabfjjcbceibpaaW.PrintLast Go.Proofs.YtabfjjcbceibpaaW.PrintMore
open Go.Proofs.Ytabfjjcbceibpaa.PDat (S72 k72 z72 rd_T72 at_T72 S74 k74 z74 rd_T74 at_T74)
/-- Whether a key comes ahead of another one. -/
def lessK (a b : ByteArray) : Bool := Op.bytesLess a.toList b.toList
/-- What is wrong with clashes, behind a key. -/
def confL : Option ByteArray → List Clash → Int
  | _, [] => 0
  | p, c :: l => if oneE c ≠ 0 then oneE c else if (match p with | some k => lessK k c.f0 | none => true) = true then confL (some c.f0) l else 132
def confE (l : List Clash) : Int := confL none l
theorem str_geq (a b : ByteArray) (w : World) : (binOp .geq 9 (.string a) (.string b)).run Try.prog w = .ok (.bool (!Op.bytesLess a.toList b.toList)) w := by
  first | rfl | kernel_rfl
def prevK (l : List Clash) (i : Nat) : Option ByteArray := if i = 0 then none else some (rd_T74 l ((i - 1 : Nat) : Int)).f0
theorem cl_at {l : List Clash} (i : Nat) (hi : i < l.length) : rd_T74 l (i : Int) = l[i] := by simp [rd_T74, List.getD, hi]
theorem cl_drop (l : List Clash) (i : Nat) (h : i < l.length) : l.drop i = rd_T74 l (i : Int) :: l.drop (i + 1) := by
  rw [List.drop_eq_getElem_cons h, cl_at i h]
theorem prevK_succ (l : List Clash) (i : Nat) : prevK l (i + 1) = some (rd_T74 l (i : Int)).f0 := by simp [prevK]
set_option maxHeartbeats 8000000 in
set_option maxRecDepth 100000 in
theorem right13_calls (A : Option Addr) (n : Nat) (l : List Clash) (W : World) (hC : Kd.C k74 W A l.length l) (hn : l.length ≤ 9223372036854775807) :
    Calls Try.prog 45 #[.slice A l.length n] W fun e W1 => e = .returned (.int .i64 (confE l)) ∧ Below W.heap.size W W1 := by
  have HC := Aside0.mk hC
  have HN := Aside0.mk hn
  clear hC hn
  have huF := Try.underlying74
  go_enter Try.func45, Try.ntmps45
  go_wp2
  go_loopg [8] l.length (fun kq v8 w' => ∃ i : Nat, v8 = .int .i64 i ∧ Aside0 (i ≤ l.length ∧ kq = l.length - i) ∧ Aside0 (confE l = confL (prevK l i) (l.drop i)) ∧ Aside0 (Below W.heap.size W w'))
  case atStart => exact ⟨0, rfl, ⟨by omega, by omega⟩, ⟨rfl⟩, ⟨Below.refl _ _⟩⟩
  case round =>
    obtain ⟨i, rfl, HI, HE, HB⟩ := hrel
    by_cases hlt : i < l.length
    · obtain ⟨ad, rfl, h0, h1, h2, h3, h4, h5, h6⟩ := at_T74 (Kd.C_below HC.out HB.out) (i : Int) (by omega) (by omega)
      have hE := HE.out
      rw [cl_drop l i hlt] at hE
      have HE2 := Aside0.mk hE
      have HPS := Aside0.mk (prevK_succ l i)
      clear hE HE
      simp only [Int.toNat_natCast] at h0 h1 h2 h3 h4 h5 h6
      generalize hc : rd_T74 l (i : Int) = c at h0 h1 h2 h3 h4 h5 h6 HE2 HPS
      clear hc
      obtain ⟨f0, ⟨g0, g1⟩, ⟨p0, p1⟩, ⟨q0, q1⟩⟩ := c
      simp only at h0 h1 h2 h3 h4 h5 h6
      have hlt' : (i : Int) < (l.length : Int) := by omega
      have HWI := Aside0.mk (show wrap64 ((i : Int) + 1) = ((i + 1 : Nat) : Int) by have := HN.out; unfold wrap64; omega)
      by_cases ho : oneE ⟨f0, ⟨g0, g1⟩, ⟨p0, p1⟩, ⟨q0, q1⟩⟩ = 0
      · have HO := Aside0.mk ho
        by_cases hi : i = 0
        · have hi' : decide ((0 : Int) < (i : Int)) = false := decide_eq_false (by omega)
          have hiN : decide (0 < i) = false := decide_eq_false (by omega)
          have HG := Aside0.mk (show confE l = confL (some f0) (l.drop (i + 1)) by
            rw [HE2.out, prevK, if_pos hi]
            simp [confL, ho])
          clear hi ho
          go_wp2_with (go_at_call 55; refine (one_calls ⟨f0, ⟨g0, g1⟩, ⟨p0, p1⟩, ⟨q0, q1⟩⟩ _).mono ?_; rw [HO.out]; rintro e w2 ⟨rfl, hb⟩; have HB2 := Aside0.mk (below_step (below_alloc HB.out _) hb); have hk2 := (Fr.of_below (B := 0) (T := []) hb).blk (blk_new wr _) (by simp); have hv0 : w2.cell? ⟨wr.heap.size, 0, none⟩ = some (.string f0) := (blk_cell hk2 0).trans rfl; clear hb hk2)
          go_quiet (fail)
          go_wp2
          go_roundg (l.length - (i + 1))
          case measure => have := HI.out; omega
          case rel => exact ⟨i + 1, by rw [HWI.out], ⟨by omega, rfl⟩, ⟨by rw [HPS.out]; exact HG.out⟩, ⟨pw_below_drewN HB2.out _⟩⟩
        · obtain ⟨j, hj⟩ : ∃ j : Nat, i = j + 1 := ⟨i - 1, by omega⟩
          have hi' : decide ((0 : Int) < (i : Int)) = true := decide_eq_true (by omega)
          have hiN : decide (0 < i) = true := decide_eq_true (by omega)
          have hwj : wrap64 ((i : Int) - 1) = (j : Int) := by have := HN.out; unfold wrap64; omega
          have hwj2 : IntKind.i64.wrap ((i : Int) - 1) = (j : Int) := by first | exact hwj | (rw [i64_w]; exact hwj)
          have hjl : (j : Int) < (l.length : Int) := by omega
          obtain ⟨ad', had, k0, _⟩ := at_T74 (Kd.C_below HC.out HB.out) (j : Int) (by omega) (by omega)
          obtain rfl : ad = ad' := by injection had
          simp only [Int.toNat_natCast] at k0
          have HPV := Aside0.mk (show prevK l i = some (rd_T74 l (j : Int)).f0 by rw [hj, prevK_succ])
          obtain ⟨key, hky⟩ : ∃ key, (rd_T74 l (j : Int)).f0 = key := ⟨_, rfl⟩
          rw [hky] at k0
          have HKY := Aside0.mk hky
          have hpv := HPV.out
          rw [hky] at hpv
          clear HPV hky
          have HPV := Aside0.mk hpv
          clear hpv
          have HJL := Aside0.mk (show j < l.length by omega)
          cases hless : lessK key f0 with
          | true =>
            have HG := Aside0.mk (show confE l = confL (some f0) (l.drop (i + 1)) by
              rw [HE2.out, HPV.out]
              simp [confL, ho, hless])
            have hl' : Op.bytesLess key.toList f0.toList = true := hless
            have hge : ∀ w, (binOp .geq 9 (.string key) (.string f0)).run Try.prog w = .ok (.bool false) w := fun w => by rw [str_geq, hl']; rfl
            clear hi hj ho hless
            go_wp2_with (go_at_call 55; refine (one_calls ⟨f0, ⟨g0, g1⟩, ⟨p0, p1⟩, ⟨q0, q1⟩⟩ _).mono ?_; rw [HO.out]; rintro e w2 ⟨rfl, hb⟩; have HB2 := Aside0.mk (below_step (below_alloc HB.out _) hb); have hk2 := (Fr.of_below (B := 0) (T := []) hb).blk (blk_new wr _) (by simp); have hv0 : w2.cell? ⟨wr.heap.size, 0, none⟩ = some (.string f0) := (blk_cell hk2 0).trans rfl; have k02 := (at_T74 (Kd.C_below HC.out HB2.out) (j : Int) (by have := HJL.out; omega) (by have := HJL.out; omega)); obtain ⟨ad2, had2, k02, _⟩ := k02; obtain rfl : ad = ad2 := (by injection had2); simp only [Int.toNat_natCast] at k02; rw [HKY.out] at k02; clear hb hk2)
            go_quiet (fail)
            go_wp2
            go_roundg (l.length - (i + 1))
            case measure => have := HI.out; omega
            case rel => exact ⟨i + 1, by rw [HWI.out], ⟨by omega, rfl⟩, ⟨by rw [HPS.out]; exact HG.out⟩, ⟨pw_below_drewN HB2.out _⟩⟩
          | false =>
            have HG := Aside0.mk (show confE l = 132 by
              rw [HE2.out, HPV.out]
              simp [confL, ho, hless])
            have hl' : Op.bytesLess key.toList f0.toList = false := hless
            have hge : ∀ w, (binOp .geq 9 (.string key) (.string f0)).run Try.prog w = .ok (.bool true) w := fun w => by rw [str_geq, hl']; rfl
            clear hi hj ho hless
            go_wp2_with (go_at_call 55; refine (one_calls ⟨f0, ⟨g0, g1⟩, ⟨p0, p1⟩, ⟨q0, q1⟩⟩ _).mono ?_; rw [HO.out]; rintro e w2 ⟨rfl, hb⟩; have HB2 := Aside0.mk (below_step (below_alloc HB.out _) hb); have hk2 := (Fr.of_below (B := 0) (T := []) hb).blk (blk_new wr _) (by simp); have hv0 : w2.cell? ⟨wr.heap.size, 0, none⟩ = some (.string f0) := (blk_cell hk2 0).trans rfl; have k02 := (at_T74 (Kd.C_below HC.out HB2.out) (j : Int) (by have := HJL.out; omega) (by have := HJL.out; omega)); obtain ⟨ad2, had2, k02, _⟩ := k02; obtain rfl : ad = ad2 := (by injection had2); simp only [Int.toNat_natCast] at k02; rw [HKY.out] at k02; clear hb hk2)
            go_quiet (fail)
            go_wp2
            go_ret
            rw [HG.out]
            exact ⟨rfl, pw_below_drewN HB2.out _⟩
      · have HG := Aside0.mk (show confE l = oneE ⟨f0, ⟨g0, g1⟩, ⟨p0, p1⟩, ⟨q0, q1⟩⟩ by
          rw [HE2.out]
          simp [confL, ho])
        have ho' : (oneE ⟨f0, ⟨g0, g1⟩, ⟨p0, p1⟩, ⟨q0, q1⟩⟩ != 0) = true := bne_iff_ne.mpr ho
        clear ho
        go_wp2_with (go_at_call 55; refine (one_calls ⟨f0, ⟨g0, g1⟩, ⟨p0, p1⟩, ⟨q0, q1⟩⟩ _).mono ?_; rintro e w2 ⟨rfl, hb⟩; have HB2 := Aside0.mk (below_step (below_alloc HB.out _) hb); clear hb)
        go_ret
        rw [HG.out]
        exact ⟨rfl, HB2.out⟩
    · have hI : i = l.length := by have := HI.out; omega
      subst hI
      have hE := HE.out
      rw [List.drop_length] at hE
      have HG := Aside0.mk (show confE l = 0 from hE)
      clear hE
      go_wp2
      go_ret
      rw [HG.out]
      exact ⟨rfl, HB.out⟩
end Go.Proofs.Ytabfjjcbceibpaa.Sep
namespace Go.Proofs.Ytabfjjcbceibpaa.Sep
set_option linter.unusedSimpArgs false
set_option linter.unusedVariables false
open Go.RowKit Go.Proofs.Ytabfjjcbceibpaa.PCore Go.Proofs.Ytabfjjcbceibpaa.Plain Go.Proofs.YtabfjjcbceibpaaW.PrintWords Go.Proofs.YtabfjjcbceibpaaW.PrintLast Go.Proofs.YtabfjjcbceibpaaW.PrintMore
open Go.Proofs.Ytabfjjcbceibpaa.PDat (S72 k72 z72 rd_T72 at_T72 S74 k74 z74 rd_T74 at_T74)
def encS (s : Side) : List Int := encB s.f0 ++ encT s.f1
def sidesEnc (c : Clash) : Nat → List Int
  | 0 => []
  | k + 1 => sidesEnc c k ++ encS (sideAt c k)
def encCl (c : Clash) : List Int := encT c.f0 ++ sidesEnc c 3
def encCls (l : List Clash) : List Int := (l.map encCl).flatten
def encL (l : List Clash) : List Int := enc l.length ++ encCls l
/-- What Put tells. -/
def putE (l : List Clash) : Int := if confE l ≠ 0 then confE l else if l.length ≤ 1000 then 0 else 132
def putL (l : List Clash) : List Int := if putE l = 0 then encL l else []
def SmallC (c : Clash) : Prop := c.f0.size ≤ 40 ∧ c.f1.f1.size ≤ 200 ∧ c.f2.f1.size ≤ 200 ∧ c.f3.f1.size ≤ 200
theorem side_small {s : Side} (h : sideE s = 0) : s.f1.size ≤ 200 := by
  unfold sideE at h
  split at h
  · cases h
  · omega
theorem one_small {c : Clash} (h : oneE c = 0) : SmallC c := by
  unfold oneE at h
  split at h
  · rename_i hk; exact absurd h hk
  · rename_i hk
    split at h
    · rename_i h1; exact absurd h h1
    · rename_i h1
      split at h
      · rename_i h2; exact absurd h h2
      · rename_i h2
        split at h
        · rename_i h3; exact absurd h h3
        · rename_i h3
          refine ⟨?_, side_small (by simpa using h1), side_small (by simpa using h2), side_small (by simpa using h3)⟩
          have hk' : keyE c.f0 = 0 := by simpa using hk
          unfold keyE at hk'
          split at hk'
          · cases hk'
          · split at hk'
            · cases hk'
            · omega
theorem confL_ones : ∀ {p : Option ByteArray} {l : List Clash}, confL p l = 0 → ∀ c ∈ l, oneE c = 0
  | p, [], _, c, hc => by simp at hc
  | p, x :: l, h, c, hc => by
    by_cases ho : oneE x = 0
    · rcases List.mem_cons.1 hc with rfl | hc
      · exact ho
      · cases p with
        | none =>
          have : confL none (x :: l) = confL (some x.f0) l := by simp [confL, ho]
          rw [this] at h
          exact confL_ones h c hc
        | some k =>
          cases hp : lessK k x.f0 with
          | true =>
            have : confL (some k) (x :: l) = confL (some x.f0) l := by simp [confL, ho, hp]
            rw [this] at h
            exact confL_ones h c hc
          | false =>
            have : confL (some k) (x :: l) = 132 := by simp [confL, ho, hp]
            rw [this] at h
            cases h
    · have : confL p (x :: l) = oneE x := by simp [confL, ho]
      rw [this] at h
      exact absurd h ho
theorem putE_zero {l : List Clash} (h : putE l = 0) : confE l = 0 ∧ l.length ≤ 1000 ∧ ∀ c ∈ l, SmallC c := by
  unfold putE at h
  split at h
  · rename_i hc; exact absurd h hc
  · rename_i hc
    have hc' : confE l = 0 := by simpa using hc
    split at h
    · rename_i hl
      exact ⟨hc', hl, fun c hcl => one_small (confL_ones hc' c hcl)⟩
    · cases h
theorem encS_len {s : Side} (h : s.f1.size ≤ 200) : (encS s).length ≤ 211 := by
  have := encT_len s.f1 (by omega)
  simp only [encS, List.length_append, encB, List.length_cons, List.length_nil]
  omega
theorem sides_len {c : Clash} (h : SmallC c) : ∀ k : Nat, (sidesEnc c k).length ≤ 211 * k
  | 0 => by simp [sidesEnc]
  | k + 1 => by
    have h1 := sides_len h k
    have h2 : (encS (sideAt c k)).length ≤ 211 := by
      unfold sideAt
      split
      · exact encS_len h.2.1
      · split
        · exact encS_len h.2.2.1
        · exact encS_len h.2.2.2
    simp only [sidesEnc, List.length_append]
    omega
theorem encCl_len {c : Clash} (h : SmallC c) : (encCl c).length ≤ 700 := by
  have h1 := encT_len c.f0 (by have := h.1; omega)
  have h2 := sides_len h 3
  have := h.1
  simp only [encCl, List.length_append]
  omega
theorem encCls_len : ∀ {l : List Clash}, (∀ c ∈ l, SmallC c) → (encCls l).length ≤ 700 * l.length
  | [], _ => by simp [encCls]
  | x :: l, h => by
    have h1 := encCl_len (h x (by simp))
    have h2 := encCls_len (l := l) (fun y hy => h y (by simp [hy]))
    simp only [encCls, List.map_cons, List.flatten_cons, List.length_append, List.length_cons] at h2 ⊢
    omega
theorem encCls_take {l : List Clash} (i : Nat) (h : i < l.length) : encCls (l.take (i + 1)) = encCls (l.take i) ++ encCl (rd_T74 l (i : Int)) := by
  rw [cl_at i h, take_one l i h]
  unfold encCls
  rw [List.map_append, List.flatten_append]
  simp
set_option maxHeartbeats 16000000 in
set_option maxRecDepth 100000 in
theorem put13_calls (A : Option Addr) (n : Nat) (l : List Clash) (W : World) (hC : Kd.C k74 W A l.length l) (hn : l.length ≤ 9223372036854775807) :
    Calls Try.prog 29 #[.slice A l.length n] W fun e W1 => ∃ v, e = .returned (.tuple #[v, .int .i64 (putE l)]) ∧ Kd.R (Kd.int .u8) 5 W1 W.heap.size (fun _ => True) v (putL l) ∧ Below W.heap.size W W1 := by
  have HC := Aside0.mk hC
  have HN := Aside0.mk hn
  have HR := Aside0.mk (right13_calls A n l W hC hn)
  clear hC hn
  have huF := Try.underlying74
  have huS := Try.underlying72
  by_cases he : confE l = 0
  · by_cases hl : (1000 : Int) < (l.length : Int)
    · have hl' : decide ((1000 : Int) < (l.length : Int)) = true := decide_eq_true hl
      have HE := Aside0.mk he
      have HP := Aside0.mk (show putE l = 132 by unfold putE; rw [if_neg (by simpa using he), if_neg (by omega)])
      clear he hl
      go_enter Try.func29, Try.ntmps29
      go_wp2_with (go_at_call 45; refine HR.out.mono ?_; rw [HE.out]; rintro e w2 ⟨rfl, hb⟩; have HB2 := Aside0.mk hb; clear hb)
      go_ret2
      refine ⟨.slice none 0 0, by rw [HP.out]; rfl, ?_, HB2.out⟩
      have : putL l = [] := by unfold putL; rw [HP.out]; rfl
      rw [this]
      exact Kd.R_nil _ _ _ _ _
    · have hl' : decide ((1000 : Int) < (l.length : Int)) = false := decide_eq_false hl
      have HE := Aside0.mk he
      have HP := Aside0.mk (show putE l = 0 by unfold putE; rw [if_neg (by simpa using he), if_pos (by omega)])
      have HPL := Aside0.mk (show putL l = encL l by unfold putL; rw [if_pos HP.out])
      have HSM := Aside0.mk (putE_zero HP.out)
      have HL := Aside0.mk (enc_len_u64 (n := (l.length : Int)) (by omega) (by omega))
      have hcl : IntKind.u64.wrap (l.length : Int) = (l.length : Int) := by rw [IntKind.wrap_u64]; omega
      clear he hl
      go_enter Try.func29, Try.ntmps29
      go_wp2_with (first | (go_at_call 45; refine HR.out.mono ?_; rw [HE.out]; rintro e w2 ⟨rfl, hb⟩; have HB2 := Aside0.mk (below_alloc hb (.cells #[.slice none 0 0] 64)); have HW2 := Aside0.mk (show WrAt W.heap.size w2.heap.size (w2.alloc (.cells #[.slice none 0 0] 64)) [] from ⟨_, blk_new _ _, hb.size, Kd.R_nil _ _ _ _ _⟩); clear hb) | (go_at_call 31; refine (wr_num1_at W.heap.size w2.heap.size _ [] (l.length : Int) _ (size_one _ _) HW2.out ⟨by omega, by have := HSM.out.2.1; omega⟩ (by decide)).mono ?_; rintro e w3 ⟨rfl, hw, hf⟩; have HW3 := Aside0.mk hw; have HB3 := Aside0.mk (HB2.out.trans (hf.below HB2.out.size)); clear hw hf))
      generalize w2.heap.size = gw at HW3 ⊢
      go_loopg [28] l.length (fun kq v28 w' => ∃ i : Nat, v28 = .int .i64 i ∧ Aside0 (i ≤ l.length ∧ kq = l.length - i) ∧ Aside0 (WrAt W.heap.size gw w' (enc l.length ++ encCls (l.take i))) ∧ Aside0 (Below W.heap.size W w'))
      case atStart => exact ⟨0, rfl, ⟨by omega, by omega⟩, ⟨by have := HW3.out; rw [List.nil_append] at this; simpa [encCls] using this⟩, ⟨HB3.out⟩⟩
      case round =>
        obtain ⟨i, rfl, HI, HW, HB⟩ := hrel
        by_cases hlt : i < l.length
        · obtain ⟨ad, rfl, h0, h1, h2, h3, h4, h5, h6⟩ := at_T74 (Kd.C_below HC.out HB.out) (i : Int) (by omega) (by omega)
          have HTK := Aside0.mk (encCls_take i hlt)
          have HSI0 := HSM.out.2.2 _ (List.getElem_mem hlt)
          rw [← cl_at i hlt] at HSI0
          have HSI := Aside0.mk HSI0
          clear HSI0
          have HLB := Aside0.mk (show (enc (l.length : Int) ++ encCls (l.take i)).length ≤ 700100 by
            have h1 := encCls_len (l := l.take i) (fun c hc => HSM.out.2.2 c (List.mem_of_mem_take hc))
            have h2 := HL.out
            have h3 := HSM.out.2.1
            rw [List.length_take] at h1
            rw [List.length_append]
            omega)
          simp only [Int.toNat_natCast] at h0 h1 h2 h3 h4 h5 h6
          generalize hc : rd_T74 l (i : Int) = c at h0 h1 h2 h3 h4 h5 h6 HTK HSI
          clear hc
          obtain ⟨f0, ⟨g0, g1⟩, ⟨p0, p1⟩, ⟨q0, q1⟩⟩ := c
          simp only at h0 h1 h2 h3 h4 h5 h6
          have hlt' : (i : Int) < (l.length : Int) := by omega
          have HWI := Aside0.mk (show wrap64 ((i : Int) + 1) = ((i + 1 : Nat) : Int) by have := HN.out; unfold wrap64; omega)
          have HZ0 := Aside0.mk (show f0.size ≤ 40 from HSI.out.1)
          have HSL := Aside0.mk (sides_len HSI.out)
          generalize hbs : enc (l.length : Int) ++ encCls (l.take i) = bs at HW HLB
          have HBS := Aside0.mk hbs
          clear hbs
          have hi0 := fun w => idx0 g0 p0 q0 g1 p1 q1 w
          have hi1 := fun w => idx1 g0 p0 q0 g1 p1 q1 w
          have hi2 := fun w => idx2 g0 p0 q0 g1 p1 q1 w
          go_wp2_with (go_at_call 30; refine (wr_text W.heap.size gw bs f0 _ (HW.out.below (below_alloc (Below.refl _ _) _)) (by have := HLB.out; have := HZ0.out; omega)).mono ?_; rintro e w4 ⟨rfl, hw, hf⟩; have HW4 := Aside0.mk hw; have HB4 := Aside0.mk (HB.out.trans ((Fr.alloc hf).below HB.out.size)); have hv4 := hf.blk (blk_new wr (.cells #[.string f0, .bool g0, .string g1, .bool p0, .string p1, .bool q0, .string q1] 74)) (by decide); have v0 : World.cell? w4 ⟨wr.heap.size, 0, none⟩ = some (.string f0) := (blk_cell hv4 0).trans rfl; have v1 : World.cell? w4 ⟨wr.heap.size, 1, none⟩ = some (.bool g0) := (blk_cell hv4 1).trans rfl; have v2 : World.cell? w4 ⟨wr.heap.size, 2, none⟩ = some (.string g1) := (blk_cell hv4 2).trans rfl; have v3 : World.cell? w4 ⟨wr.heap.size, 3, none⟩ = some (.bool p0) := (blk_cell hv4 3).trans rfl; have v4 : World.cell? w4 ⟨wr.heap.size, 4, none⟩ = some (.string p1) := (blk_cell hv4 4).trans rfl; have v5 : World.cell? w4 ⟨wr.heap.size, 5, none⟩ = some (.bool q0) := (blk_cell hv4 5).trans rfl; have v6 : World.cell? w4 ⟨wr.heap.size, 6, none⟩ = some (.string q1) := (blk_cell hv4 6).trans rfl; clear hw hf hv4)
          clear h0 h1 h2 h3 h4 h5 h6 v0 v1 v2 v3 v4 v5 v6
          go_loopg [43] 3 (fun kq v43 w' => ∃ k : Nat, v43 = .int .i64 k ∧ Aside0 (k ≤ 3 ∧ kq = 3 - k) ∧ Aside0 (WrAt W.heap.size gw w' (bs ++ encT f0 ++ sidesEnc ⟨f0, ⟨g0, g1⟩, ⟨p0, p1⟩, ⟨q0, q1⟩⟩ k)) ∧ Aside0 (Below W.heap.size W w'))
          case atStart => exact ⟨0, rfl, ⟨by omega, by omega⟩, ⟨by have := HW4.out; simpa [sidesEnc] using this⟩, ⟨HB4.out⟩⟩
          case round =>
            obtain ⟨k, rfl, HI3, HWk, HBk⟩ := hrel
            have HT0 := Aside0.mk (encT_len f0 (by have := HZ0.out; omega))
            rcases (show k = 0 ∨ k = 1 ∨ k = 2 ∨ k = 3 by have := HI3.out; omega) with rfl | rfl | rfl | rfl
            · go_wp2_with (first | (go_at_call 32; refine (wr_flag W.heap.size gw _ g0 _ (HWk.out.below (below_alloc (Below.refl _ _) _)) (by have h1 := HLB.out; have h2 := HT0.out; have h3 := HZ0.out; have h4 := HSL.out 0; simp only [List.length_append]; omega)).mono ?_; rintro e w5 ⟨rfl, hw, hf⟩; have HW5 := Aside0.mk hw; have HB5 := Aside0.mk (HBk.out.trans ((Fr.alloc hf).below HBk.out.size)); have hy := hf.blk (blk_new wr (.cells #[.bool g0, .string g1] 72)) (by decide); have y1 : World.cell? w5 ⟨wr.heap.size, 1, none⟩ = some (.string g1) := (blk_cell hy 1).trans rfl; clear hw hf hy) | (go_at_call 30; refine (wr_text W.heap.size gw _ g1 _ HW5.out (by have h1 := HLB.out; have h2 := HT0.out; have h3 := HZ0.out; have h4 := HSL.out 0; have h5 := HSI.out.2; have h6 : g1.size ≤ 200 := (by first | exact h5.1 | exact h5.2.1 | exact h5.2.2); have h7 : (encB g0).length = 1 := rfl; simp only [List.length_append, h7]; omega)).mono ?_; rintro e w6 ⟨rfl, hw, hf⟩; have HW6 := Aside0.mk hw; have HB6 := Aside0.mk (HB5.out.trans (hf.below HB5.out.size)); clear hw hf))
              go_roundg 2
              case measure => have := HI3.out; omega
              case rel => exact ⟨1, rfl, ⟨by omega, by omega⟩, ⟨by have := HW6.out; simpa [sidesEnc, encS, sideAt, List.append_assoc] using this⟩, ⟨HB6.out⟩⟩
            · go_wp2_with (first | (go_at_call 32; refine (wr_flag W.heap.size gw _ p0 _ (HWk.out.below (below_alloc (Below.refl _ _) _)) (by have h1 := HLB.out; have h2 := HT0.out; have h3 := HZ0.out; have h4 := HSL.out 1; simp only [List.length_append]; omega)).mono ?_; rintro e w5 ⟨rfl, hw, hf⟩; have HW5 := Aside0.mk hw; have HB5 := Aside0.mk (HBk.out.trans ((Fr.alloc hf).below HBk.out.size)); have hy := hf.blk (blk_new wr (.cells #[.bool p0, .string p1] 72)) (by decide); have y1 : World.cell? w5 ⟨wr.heap.size, 1, none⟩ = some (.string p1) := (blk_cell hy 1).trans rfl; clear hw hf hy) | (go_at_call 30; refine (wr_text W.heap.size gw _ p1 _ HW5.out (by have h1 := HLB.out; have h2 := HT0.out; have h3 := HZ0.out; have h4 := HSL.out 1; have h5 := HSI.out.2; have h6 : p1.size ≤ 200 := (by first | exact h5.1 | exact h5.2.1 | exact h5.2.2); have h7 : (encB p0).length = 1 := rfl; simp only [List.length_append, h7]; omega)).mono ?_; rintro e w6 ⟨rfl, hw, hf⟩; have HW6 := Aside0.mk hw; have HB6 := Aside0.mk (HB5.out.trans (hf.below HB5.out.size)); clear hw hf))
              go_roundg 1
              case measure => have := HI3.out; omega
              case rel => exact ⟨2, rfl, ⟨by omega, by omega⟩, ⟨by have := HW6.out; simpa [sidesEnc, encS, sideAt, List.append_assoc] using this⟩, ⟨HB6.out⟩⟩
            · go_wp2_with (first | (go_at_call 32; refine (wr_flag W.heap.size gw _ q0 _ (HWk.out.below (below_alloc (Below.refl _ _) _)) (by have h1 := HLB.out; have h2 := HT0.out; have h3 := HZ0.out; have h4 := HSL.out 2; simp only [List.length_append]; omega)).mono ?_; rintro e w5 ⟨rfl, hw, hf⟩; have HW5 := Aside0.mk hw; have HB5 := Aside0.mk (HBk.out.trans ((Fr.alloc hf).below HBk.out.size)); have hy := hf.blk (blk_new wr (.cells #[.bool q0, .string q1] 72)) (by decide); have y1 : World.cell? w5 ⟨wr.heap.size, 1, none⟩ = some (.string q1) := (blk_cell hy 1).trans rfl; clear hw hf hy) | (go_at_call 30; refine (wr_text W.heap.size gw _ q1 _ HW5.out (by have h1 := HLB.out; have h2 := HT0.out; have h3 := HZ0.out; have h4 := HSL.out 2; have h5 := HSI.out.2; have h6 : q1.size ≤ 200 := (by first | exact h5.1 | exact h5.2.1 | exact h5.2.2); have h7 : (encB q0).length = 1 := rfl; simp only [List.length_append, h7]; omega)).mono ?_; rintro e w6 ⟨rfl, hw, hf⟩; have HW6 := Aside0.mk hw; have HB6 := Aside0.mk (HB5.out.trans (hf.below HB5.out.size)); clear hw hf))
              go_roundg 0
              case measure => have := HI3.out; omega
              case rel => exact ⟨3, rfl, ⟨by omega, by omega⟩, ⟨by have := HW6.out; simpa [sidesEnc, encS, sideAt, List.append_assoc] using this⟩, ⟨HB6.out⟩⟩
            · go_wp2
              go_roundg (l.length - (i + 1))
              case measure => have := HI.out; omega
              case rel => exact ⟨i + 1, by rw [HWI.out], ⟨by omega, rfl⟩, ⟨by
                have h := HWk.out
                rw [HTK.out, ← List.append_assoc, HBS.out, encCl, ← List.append_assoc]
                exact h⟩, ⟨HBk.out⟩⟩
        · have hI : i = l.length := by have := HI.out; omega
          subst hI
          go_wp2_with (go_at_call 33; refine (wr_bytes W.heap.size gw _ _ HW.out (by have h1 := encCls_len (l := l.take l.length) (fun c hc => HSM.out.2.2 c (List.mem_of_mem_take hc)); have h2 := HL.out; have h3 := HSM.out.2.1; rw [List.length_take] at h1; rw [List.length_append]; omega)).mono ?_; rintro e w7 ⟨v, rfl, hr, hb⟩; have HR7 := Aside0.mk hr; have HB7 := Aside0.mk (below_step HB.out hb); clear hr hb)
          go_ret2
          refine ⟨v, by rw [HP.out]; rfl, ?_, HB7.out⟩
          rw [HPL.out, encL]
          have := HR7.out
          rw [List.take_length] at this
          exact Kd.R_lower this HB.out.size
  · have he' : (confE l != 0) = true := bne_iff_ne.mpr he
    have HP := Aside0.mk (show putE l = confE l by unfold putE; rw [if_pos he])
    have HPL := Aside0.mk (show putL l = [] by unfold putL; rw [HP.out, if_neg he])
    clear he
    go_enter Try.func29, Try.ntmps29
    go_wp2_with (go_at_call 45; refine HR.out.mono ?_; rintro e w2 ⟨rfl, hb⟩; have HB2 := Aside0.mk hb; clear hb)
    go_ret2
    refine ⟨.slice none 0 0, by rw [HP.out]; rfl, ?_, HB2.out⟩
    rw [HPL.out]
    exact Kd.R_nil _ _ _ _ _
end Go.Proofs.Ytabfjjcbceibpaa.Sep
namespace Go.Proofs.Ytabfjjcbceibpaa.Sep
set_option linter.unusedSimpArgs false
set_option linter.unusedVariables false
open Go.RowKit Go.Proofs.Ytabfjjcbceibpaa.PCore Go.Proofs.Ytabfjjcbceibpaa.Plain Go.Proofs.YtabfjjcbceibpaaW.PrintWords Go.Proofs.YtabfjjcbceibpaaW.PrintLast Go.Proofs.YtabfjjcbceibpaaW.PrintMore
open Go.Proofs.Ytabfjjcbceibpaa.PDat (S72 k72 z72 rd_T72 at_T72 S74 k74 z74 rd_T74 at_T74)
/-- Reading a side. -/
def rdS (s : RS) : Side × RS := (⟨(rdFlag s).1, (rdText 200 (rdFlag s).2).1⟩, (rdText 200 (rdFlag s).2).2)
/-- Reading a clash. -/
def rdCl (s : RS) : Clash × RS :=
  (⟨(rdText 40 s).1, (rdS (rdText 40 s).2).1, (rdS (rdS (rdText 40 s).2).2).1, (rdS (rdS (rdS (rdText 40 s).2).2).2).1⟩, (rdS (rdS (rdS (rdText 40 s).2).2).2).2)
def rdCls : Nat → RS → List Clash × RS
  | 0, s => ([], s)
  | n + 1, s => ((rdCl s).1 :: (rdCls n (rdCl s).2).1, (rdCls n (rdCl s).2).2)
/-- What Of tells. -/
def ofK (b : List Int) : List Clash × Int :=
  if rdDone (rdCls (rdNum 1000 (b, false)).1.toNat (rdNum 1000 (b, false)).2).2 = true ∧ confE (rdCls (rdNum 1000 (b, false)).1.toNat (rdNum 1000 (b, false)).2).1 = 0 then ((rdCls (rdNum 1000 (b, false)).1.toNat (rdNum 1000 (b, false)).2).1, 0) else ([], 20)
theorem fine_S {s : RS} (h : Fine s) : Fine (rdS s).2 := fine_text (fine_flag h) 200
theorem fine_Cl {s : RS} (h : Fine s) : Fine (rdCl s).2 := fine_S (fine_S (fine_S (fine_text h 40)))
theorem fine_Cls : ∀ (n : Nat) {s : RS}, Fine s → Fine (rdCls n s).2 ∧ (rdCls n s).1.length = n
  | 0, s, h => ⟨h, rfl⟩
  | n + 1, s, h => by
    obtain ⟨h1, h2⟩ := fine_Cls n (fine_Cl h)
    exact ⟨h1, by simp [rdCls, h2]⟩
theorem rdS_enc (x : Side) (r : List Int) (h : x.f1.size ≤ 200) : rdS (encS x ++ r, false) = (x, (r, false)) := by
  unfold rdS encS
  rw [List.append_assoc, rdFlag_enc]
  simp only
  rw [rdText_enc r (by omega) (by omega)]
theorem rdCl_enc (c : Clash) (r : List Int) (h : SmallC c) : rdCl (encCl c ++ r, false) = (c, (r, false)) := by
  obtain ⟨k, b, o, t⟩ := c
  obtain ⟨h1, h2, h3, h4⟩ := h
  simp only at h1 h2 h3 h4
  have e : encCl ⟨k, b, o, t⟩ ++ r = encT k ++ (encS b ++ (encS o ++ (encS t ++ r))) := by simp [encCl, sidesEnc, sideAt]
  rw [e]
  simp only [rdCl]
  rw [rdText_enc _ (by omega) (by omega)]
  simp only
  rw [rdS_enc b _ h2]
  simp only
  rw [rdS_enc o _ h3]
  simp only
  rw [rdS_enc t _ h4]
theorem rdCls_enc : ∀ (l : List Clash) (r : List Int), (∀ c ∈ l, SmallC c) → rdCls l.length (encCls l ++ r, false) = (l, (r, false))
  | [], r, _ => by simp [rdCls, encCls]
  | c :: l, r, h => by
    have e : encCls (c :: l) ++ r = encCl c ++ (encCls l ++ r) := by simp [encCls]
    rw [e]
    simp only [List.length_cons, rdCls]
    rw [rdCl_enc c _ (h c (by simp))]
    simp only
    rw [rdCls_enc l r (fun x hx => h x (by simp [hx]))]
theorem ofK_enc (l : List Clash) (h : putE l = 0) : ofK (encL l) = (l, 0) := by
  obtain ⟨h1, h2, h3⟩ := putE_zero h
  have e : rdNum 1000 (encL l, false) = ((l.length : Int), (encCls l, false)) := rdNum_enc (encCls l) (by omega) (by omega) (by omega)
  have e2 := rdCls_enc l [] h3
  rw [List.append_nil] at e2
  unfold ofK
  rw [e]
  simp only [Int.toNat_natCast]
  rw [e2, if_pos ⟨rfl, h1⟩]
theorem rdS_of {s : RS} (hb : Fine s) (h : (rdS s).2.2 = false) : s.2 = false ∧ s.1 = encS (rdS s).1 ++ (rdS s).2.1 := by
  obtain ⟨h1, h2, _⟩ := rdText_of (most := 200) (fine_flag hb).1 h
  obtain ⟨h3, h4⟩ := rdFlag_of hb.1 h1
  refine ⟨h3, ?_⟩
  rw [h2] at h4
  simp only [encS, rdS, List.append_assoc]
  exact h4
theorem rdCl_of {s : RS} (hb : Fine s) (h : (rdCl s).2.2 = false) : s.2 = false ∧ s.1 = encCl (rdCl s).1 ++ (rdCl s).2.1 := by
  have f1 := fine_text hb 40
  have f2 := fine_S f1
  have f3 := fine_S f2
  obtain ⟨a1, a2⟩ := rdS_of f3 h
  obtain ⟨b1, b2⟩ := rdS_of f2 a1
  obtain ⟨c1, c2⟩ := rdS_of f1 b1
  obtain ⟨d1, d2, _⟩ := rdText_of (most := 40) hb.1 c1
  refine ⟨d1, ?_⟩
  rw [a2] at b2
  rw [b2] at c2
  rw [c2] at d2
  rw [d2]
  simp [encCl, sidesEnc, sideAt, rdCl]
theorem rdCls_of : ∀ (n : Nat) {s : RS}, Fine s → (rdCls n s).2.2 = false → s.2 = false ∧ s.1 = encCls (rdCls n s).1 ++ (rdCls n s).2.1
  | 0, s, _, h => ⟨h, by simp [rdCls, encCls]⟩
  | n + 1, s, hb, h => by
    obtain ⟨a1, a2⟩ := rdCls_of n (fine_Cl hb) h
    obtain ⟨b1, b2⟩ := rdCl_of hb a1
    refine ⟨b1, ?_⟩
    rw [a2] at b2
    rw [b2]
    simp [rdCls, encCls]
theorem ofK_bytes {b : List Int} (hF : Fine (b, false)) (h : (ofK b).2 = 0) : encL (ofK b).1 = b ∧ putE (ofK b).1 = 0 := by
  unfold ofK at h ⊢
  split at h
  · rename_i hc
    rw [if_pos hc]
    have f1 := fine_num hF 1000
    have hn := num_in hF 1000 (by decide)
    obtain ⟨f2, hl⟩ := fine_Cls (rdNum 1000 (b, false)).1.toNat f1
    have hd := (rdDone_iff _).1 hc.1
    obtain ⟨a1, a2⟩ := rdCls_of _ f1 (by rw [hd])
    obtain ⟨_, b2, _⟩ := rdNum_of (s := (b, false)) hF.1 a1
    rw [hd, List.append_nil] at a2
    rw [a2] at b2
    refine ⟨?_, ?_⟩
    · simp only [encL]
      rw [hl, Int.toNat_of_nonneg hn.1]
      exact b2.symm
    · unfold putE
      rw [if_neg (by simpa using hc.2), if_pos (by rw [hl]; omega)]
  · cases h
theorem ofK_len {b : List Int} (hF : Fine (b, false)) : (ofK b).1.length ≤ 1000 := by
  have f1 := fine_num hF 1000
  have hn := num_in hF 1000 (by decide)
  obtain ⟨f2, hl⟩ := fine_Cls (rdNum 1000 (b, false)).1.toNat f1
  unfold ofK
  split
  · simp only; omega
  · simp
/-- A reader that has failed reads on so. -/
theorem rdS_bad {s : RS} (h : s.2 = true) : (rdS s).2.2 = true := rdText_bad (rdFlag_bad h)
theorem rdCl_bad {s : RS} (h : s.2 = true) : (rdCl s).2.2 = true := rdS_bad (rdS_bad (rdS_bad (rdText_bad h)))
theorem rdCls_bad : ∀ (n : Nat) {s : RS}, s.2 = true → (rdCls n s).2.2 = true
  | 0, s, h => h
  | n + 1, s, h => rdCls_bad n (rdCl_bad h)
theorem Fr.set_new {B : Nat} {T : List Nat} {W W1 : World} (h : Fr B T W W1) {g : Nat} (hg : W.heap.size ≤ g) (j : Nat) (u : Value) : Fr B T W (W1.setCell ⟨g, j, none⟩ u) :=
  ⟨h.os, h.tape, h.output, by simpa [World.setCell] using h.size, fun k hk hT => by
    rw [Below.heap_setCell _ _ _ _ (show k ≠ g by omega)]
    exact h.block k hk hT⟩
set_option maxHeartbeats 4000000 in
set_option maxRecDepth 100000 in
theorem read_calls (B g : Nat) (s : RS) (W : World) (h : RdAt 77 B g W s) :
    Calls Try.prog 44 #[.pointer (some ⟨g, 0, none⟩)] W fun e W1 => e = .returned (.agg #[.bool (rdS s).1.f0, .string (rdS s).1.f1]) ∧ RdAt 77 B g W1 (rdS s).2 ∧ Fr B [77] W W1 := by
  have HP := Aside0.mk h
  clear h
  have huF := Try.underlying72
  go_enter Try.func44, Try.ntmps44
  go_wp2_with (first | (go_at_call 16; refine (rd_flag B g s _ (HP.out.below (below_alloc (Below.refl _ _) _))).mono ?_; rintro e w1 ⟨rfl, hr, hf⟩; have HR1 := Aside0.mk hr; have HF1 := Aside0.mk hf; have HKR := Aside0.mk (hf.blk (blk_new W _) (by decide)); clear hr hf) | (go_at_call 14; refine (rd_text B g _ 200 _ (HR1.out.below (below_alloc (Below.refl _ _) _)) (by decide)).mono ?_; rintro e w2 ⟨rfl, hr, hf⟩; have HR2 := Aside0.mk hr; have hkv := hf.blk (blk_new w1 (.cells #[.bool (rdFlag s).1, .string ⟨#[]⟩] 72)) (by decide); have HKV := Aside0.mk hkv; have hkr := hf.blk (blk_alloc HKR.out (.cells #[.bool (rdFlag s).1, .string ⟨#[]⟩] 72)) (by decide); have HKR2 := Aside0.mk hkr; have HF2 := Aside0.mk ((Fr.alloc HF1.out).trans (Fr.alloc hf)); have y0 : World.cell? w2 ⟨w1.heap.size, 0, none⟩ = some (.bool (rdFlag s).1) := (blk_cell hkv 0).trans rfl; have y1 : World.cell? w2 ⟨w1.heap.size, 1, none⟩ = some (.string ⟨#[]⟩) := (blk_cell hkv 1).trans rfl; have z0 := blk_frozen hkv 0; have z1 := blk_frozen hkv 1; have x0 : World.cell? w2 ⟨W.heap.size, 0, none⟩ = some (.bool false) := (blk_cell hkr 0).trans rfl; have x1 : World.cell? w2 ⟨W.heap.size, 1, none⟩ = some (.string ⟨#[]⟩) := (blk_cell hkr 1).trans rfl; have t0 := blk_frozen hkr 0; have t1 := blk_frozen hkr 1; have hx := blk_far hkr (p := ⟨w1.heap.size, 1, none⟩) (Nat.ne_of_lt (blk_lt HKR.out)) (.string (rdText 200 (rdFlag s).2).1); have HX := Aside0.mk hx; have x0' : World.cell? (w2.setCell ⟨w1.heap.size, 1, none⟩ (.string (rdText 200 (rdFlag s).2).1)) ⟨W.heap.size, 0, none⟩ = some (.bool false) := (blk_cell hx 0).trans rfl; have x1' : World.cell? (w2.setCell ⟨w1.heap.size, 1, none⟩ (.string (rdText 200 (rdFlag s).2).1)) ⟨W.heap.size, 1, none⟩ = some (.string ⟨#[]⟩) := (blk_cell hx 1).trans rfl; have t0' := blk_frozen hx 0; have t1' := blk_frozen hx 1; clear hr hf hkv hkr hx))
  have h1 := blk_set HX.out 0 (.bool (rdFlag s).1)
  have h2 := blk_set h1 1 (.string (rdText 200 (rdFlag s).2).1)
  have hk : (((w2.setCell ⟨w1.heap.size, 1, none⟩ (.string (rdText 200 (rdFlag s).2).1)).setCell ⟨W.heap.size, 0, none⟩ (.bool (rdFlag s).1)).setCell ⟨W.heap.size, 1, none⟩ (.string (rdText 200 (rdFlag s).2).1)).heap[W.heap.size]? = some (.cells #[.bool (rdFlag s).1, .string (rdText 200 (rdFlag s).2).1] 72 (0, 0)) := by simpa using h2
  refine bodyPost_ret (results_cell_row rfl _ _ W.heap.size 72 #[.bool (rdFlag s).1, .string (rdText 200 (rdFlag s).2).1] (0, 0) _ rfl hk huF rfl (by kernel_rfl)) rfl ?_
  have hB : B ≤ W.heap.size := HP.out.lt
  have hle : W.heap.size ≤ w1.heap.size := Nat.le_of_lt (blk_lt HKR.out)
  exact ⟨rfl, HR2.out.fr ((((Fr.refl B [72] w2).set HKV.out (Nat.le_trans hB hle) (by simp) 1 _).set HKR2.out hB (by simp) 0 _).set HKR2.out hB (by simp) 1 _) (by decide), ((HF2.out.set_new hle 1 _).set_new (Nat.le_refl _) 0 _).set_new (Nat.le_refl _) 1 _⟩
end Go.Proofs.Ytabfjjcbceibpaa.Sep
namespace Go.Proofs.Ytabfjjcbceibpaa.Sep
set_option linter.unusedSimpArgs false
set_option linter.unusedVariables false
open Go.RowKit Go.Proofs.Ytabfjjcbceibpaa.PCore Go.Proofs.Ytabfjjcbceibpaa.Plain Go.Proofs.YtabfjjcbceibpaaW.PrintWords Go.Proofs.YtabfjjcbceibpaaW.PrintLast Go.Proofs.YtabfjjcbceibpaaW.PrintMore
open Go.Proofs.Ytabfjjcbceibpaa.PDat (S72 k72 z72 rd_T72 at_T72 S74 k74 z74 rd_T74 at_T74 k74_mkM)
theorem cl_E {T : List Nat} (h : 74 ∉ T) : ∀ q, q ∈ 74 :: (k74).E → q ∉ T := fun q hq => by
  have e : q = 74 := by simpa [k74, k72, Kd.iso, Kd.pair, Kd.int, Kd.scalar, Kd.string, Kd.bool] using hq
  rw [e]
  exact h
/-- Where reading a clash stands: the reader (type T, block g), the clash's variable (block C), the clashes told so far. -/
structure ClSt (T : Nat) (W0 : World) (g C : Nat) (w : World) (s : RS) (c : Clash) (v : Value) (xs : List Clash) : Prop where
  rd : RdAt T W0.heap.size g w s
  bC : w.heap[C]? = some (.cells (claCells c) 74 (0, 0))
  hR : Kd.R k74 74 w W0.heap.size (fun k => k ≠ C) v xs
  le : W0.heap.size ≤ C
  bel : Below W0.heap.size W0 w
section
variable {T : Nat} {W0 : World} {g C : Nat} {w w1 : World} {s s' : RS} {c : Clash} {v : Value} {xs : List Clash}
theorem ClSt.fr (h : ClSt T W0 g C w s c v xs) (hr : RdAt T W0.heap.size g w1 s') (hf : Fr W0.heap.size [T] w w1) (hT : 74 ∉ [T]) : ClSt T W0 g C w1 s' c v xs :=
  ⟨hr, hf.blk h.bC hT, hf.R h.hR (cl_E hT), h.le, h.bel.trans (hf.below h.bel.size)⟩
theorem ClSt.setv (h : ClSt T W0 g C w s c v xs) (hT : 74 ≠ T ∧ 74 ≠ 5) (c' : Clash) (j j' : Nat) (u u' : Value) (hc : ((claCells c).setIfInBounds j u).setIfInBounds j' u' = claCells c') :
    ClSt T W0 g C ((w.setCell ⟨C, j, none⟩ u).setCell ⟨C, j', none⟩ u') s c' v xs := by
  have hF := ((Fr.refl W0.heap.size [74] w).set h.bC h.le (by simp) j u).set h.bC h.le (by simp) j' u'
  refine ⟨h.rd.fr hF ⟨by simp; first | done | exact fun e => hT.1 e.symm, by decide⟩, ?_, Kd.R_far (Kd.R_far h.hR (p := ⟨C, j, none⟩) (fun k hk => hk) u) (p := ⟨C, j', none⟩) (fun k hk => hk) u', h.le, h.bel.trans (hF.below h.bel.size)⟩
  have := blk_set (blk_set h.bC j u) j' u'
  rw [hc] at this
  exact this
theorem ClSt.set1 (h : ClSt T W0 g C w s c v xs) (hT : 74 ≠ T ∧ 74 ≠ 5) (x : Side) : ClSt T W0 g C ((w.setCell ⟨C, 1, none⟩ (.bool x.f0)).setCell ⟨C, 2, none⟩ (.string x.f1)) s ⟨c.f0, x, c.f2, c.f3⟩ v xs := h.setv hT _ 1 2 _ _ rfl
theorem ClSt.set2 (h : ClSt T W0 g C w s c v xs) (hT : 74 ≠ T ∧ 74 ≠ 5) (x : Side) : ClSt T W0 g C ((w.setCell ⟨C, 3, none⟩ (.bool x.f0)).setCell ⟨C, 4, none⟩ (.string x.f1)) s ⟨c.f0, c.f1, x, c.f3⟩ v xs := h.setv hT _ 3 4 _ _ rfl
theorem ClSt.set3 (h : ClSt T W0 g C w s c v xs) (hT : 74 ≠ T ∧ 74 ≠ 5) (x : Side) : ClSt T W0 g C ((w.setCell ⟨C, 5, none⟩ (.bool x.f0)).setCell ⟨C, 6, none⟩ (.string x.f1)) s ⟨c.f0, c.f1, c.f2, x⟩ v xs := h.setv hT _ 5 6 _ _ rfl
theorem clSt_new (hr : RdAt T W0.heap.size g w1 s') (hf : Fr W0.heap.size [T] w w1) (hR : Kd.R k74 74 w W0.heap.size (fun _ => True) v xs) (hb : Below W0.heap.size W0 w) (hT : 74 ∉ [T]) (k : ByteArray) :
    ClSt T W0 g w1.heap.size (w1.alloc (.cells #[.string k, .bool false, .string ⟨#[]⟩, .bool false, .string ⟨#[]⟩, .bool false, .string ⟨#[]⟩] 74)) s' ⟨k, ⟨false, ⟨#[]⟩⟩, ⟨false, ⟨#[]⟩⟩, ⟨false, ⟨#[]⟩⟩⟩ v xs :=
  ⟨hr.below (below_alloc (Below.refl _ _) _), blk_new _ _, Kd.R_alloc (Kd.R_mono (Kd.R_bound (hf.R hR (cl_E hT))) (fun k hk => Nat.ne_of_lt hk.2.2.1)) _, (hb.trans (hf.below hb.size)).size, below_alloc (hb.trans (hf.below hb.size)) _⟩
end
theorem k_pred (j : Nat) (h : j ≤ 2000) : IntKind.u64.wrap (j : Int) = (j : Int) := by rw [IntKind.wrap_u64]; omega
theorem cls_snoc (j : Nat) (s s0 : RS) (xs : List Clash) (N : Nat) (h : rdCls N s0 = (xs ++ (rdCls (j + 1) s).1, (rdCls (j + 1) s).2)) : rdCls N s0 = ((xs ++ [(rdCl s).1]) ++ (rdCls j (rdCl s).2).1, (rdCls j (rdCl s).2).2) := by
  rw [h]
  simp [rdCls]
set_option maxHeartbeats 16000000 in
set_option maxRecDepth 100000 in
theorem of13_calls (A : Option Addr) (n : Nat) (b : List Int) (W : World) (hC : Kd.C (Kd.int .u8) W A b.length b) (hF : Fine (b, false)) :
    Calls Try.prog 17 #[.slice A b.length n] W fun e W1 => ∃ v, e = .returned (.tuple #[v, .int .i64 (ofK b).2]) ∧ Kd.R k74 74 W1 W.heap.size (fun _ => True) v (ofK b).1 ∧ Below W.heap.size W W1 := by
  have HP := Aside0.mk (rd_read A n b W hC hF)
  have HFF := Aside0.mk hF
  clear hC hF
  have huF := Try.underlying74
  have huS := Try.underlying72
  have HNN := Aside0.mk (num_in HFF.out 1000 (by decide))
  have HNI := Aside0.mk (show (rdNum 1000 (b, false)).1 = ((rdNum 1000 (b, false)).1.toNat : Int) by have := HNN.out.1; omega)
  go_enter Try.func17, Try.ntmps17
  go_wp2_with (first | (go_at_call 13; refine HP.out.mono ?_; rintro e w1 ⟨g, rfl, hr, hb⟩; have HR1 := Aside0.mk (hr W.heap.size (Nat.le_refl _)); have HB1 := Aside0.mk hb; clear hr hb) | (go_at_call 15; refine (rd_num W.heap.size g (b, false) 1000 _ HR1.out).mono ?_; rintro e w2 ⟨rfl, hr, hf⟩; have HR2 := Aside0.mk hr; have HB2 := Aside0.mk (HB1.out.trans (hf.below HB1.out.size)); clear hr hf))
  go_loopg [5, 6] (rdNum 1000 (b, false)).1.toNat (fun kq v5 v6 w' => ∃ (j : Nat) (s : RS) (xs : List Clash), v6 = .int .u64 (j : Int) ∧ Aside0 (kq = j ∧ j + xs.length = (rdNum 1000 (b, false)).1.toNat) ∧ Aside0 (rdCls (rdNum 1000 (b, false)).1.toNat (rdNum 1000 (b, false)).2 = (xs ++ (rdCls j s).1, (rdCls j s).2)) ∧ Aside0 (RdAt 77 W.heap.size g w' s) ∧ Aside0 (Kd.R k74 74 w' W.heap.size (fun _ => True) v5 xs) ∧ Aside0 (Below W.heap.size W w'))
  case atStart => exact ⟨(rdNum 1000 (b, false)).1.toNat, (rdNum 1000 (b, false)).2, [], by rw [← HNI.out], ⟨rfl, by simp⟩, ⟨by simp⟩, ⟨HR2.out⟩, ⟨Kd.R_nil _ _ _ _ _⟩, ⟨HB2.out⟩⟩
  case round =>
    obtain ⟨j, s, xs, rfl, HJ, HE, HRd, HO, HB⟩ := hrel
    cases j with
    | succ j =>
      have hj : decide ((0 : Int) < (j : Int) + 1) = true := decide_eq_true (by omega)
      have HWI := Aside0.mk (k_pred j (by have := HJ.out; have := HNN.out; omega))
      go_upto_region 10 with (first | (go_at_call 44; have hq := HC3.out; clear hq; refine (read_calls W.heap.size g _ _ HC3.out.rd).mono ?_; rintro e w4 ⟨rfl, hr, hf⟩; have hH := HC3.out.fr hr hf (by decide); obtain ⟨d0, d1, d2, d3, d4, d5, d6⟩ := cla_cells hH.bC; have zz5 := blk_frozen hH.bC 5; have zz6 := blk_frozen hH.bC 6; have HC4 := Aside0.mk (hH.set3 (by decide) (rdS (rdS (rdS (rdText 40 s).2).2).2).1); clear hr hf hH HC3) | (go_at_call 44; have hq := HC2.out; clear hq; refine (read_calls W.heap.size g _ _ HC2.out.rd).mono ?_; rintro e w3' ⟨rfl, hr, hf⟩; have hH := HC2.out.fr hr hf (by decide); obtain ⟨d0, d1, d2, d3, d4, d5, d6⟩ := cla_cells hH.bC; have zz3 := blk_frozen hH.bC 3; have zz4 := blk_frozen hH.bC 4; have HC3 := Aside0.mk (hH.set2 (by decide) (rdS (rdS (rdText 40 s).2).2).1); clear hr hf hH HC2) | (go_at_call 44; have hq := HC1.out; clear hq; refine (read_calls W.heap.size g _ _ HC1.out.rd).mono ?_; rintro e w2' ⟨rfl, hr, hf⟩; have hH := HC1.out.fr hr hf (by decide); obtain ⟨d0, d1, d2, d3, d4, d5, d6⟩ := cla_cells hH.bC; have zz1 := blk_frozen hH.bC 1; have zz2 := blk_frozen hH.bC 2; have HC2 := Aside0.mk (hH.set1 (by decide) (rdS (rdText 40 s).2).1); clear hr hf hH HC1) | (go_at_call 14; refine (rd_text W.heap.size g s 40 _ HRd.out (by decide)).mono ?_; rintro e w1' ⟨rfl, hr, hf⟩; have HC1 := Aside0.mk (clSt_new hr hf HO.out HB.out (by decide) (rdText 40 s).1); clear hr hf))
      generalize ((w4.setCell ⟨w1'.heap.size, 5, none⟩ (.bool (rdS (rdS (rdS (rdText 40 s).2).2).2).1.f0)).setCell ⟨w1'.heap.size, 6, none⟩ (.string (rdS (rdS (rdS (rdText 40 s).2).2).2).1.f1)) = X at HC4 ⊢
      have HC4' : Aside0 (ClSt 77 W g w1'.heap.size X (rdCl s).2 (rdCl s).1 u5 xs) := HC4
      obtain ⟨c0, c1, c2, c3, c4, c5, c6⟩ := cla_cells HC4'.out.bC
      go_wp2_with (at_builtin; refine Kd.R_append k74 (w0 := W) W.heap.size rfl (.tmp 28) (.tmp 30) 27 74 (.agg #[.string ⟨#[]⟩, .bool false, .string ⟨#[]⟩, .bool false, .string ⟨#[]⟩, .bool false, .string ⟨#[]⟩]) 88 rfl Try.underlying27 (by kernel_rfl) rfl (by decide) (by omega) u5 xs (rdCl s).1 [.string (rdCl s).1.f0, .bool (rdCl s).1.f1.f0, .string (rdCl s).1.f1.f1, .bool (rdCl s).1.f2.f0, .string (rdCl s).1.f2.f1, .bool (rdCl s).1.f3.f0, .string (rdCl s).1.f3.f1] (fun _ => True) (fun _ => False) rfl rfl ?aP (fun _ hk => hk.elim) ?aF ?aO ?aB ?aS ?aL ?_; (case aP => exact k74_mkM _ _ _ _); (case aF => exact fun _ _ => trivial); (case aO => exact Kd.R_mono HC4'.out.hR (fun _ _ => trivial)); (case aB => exact HC4'.out.bel); (case aS => exact HC4'.out.bel.size); (case aL => have := HJ.out; have := HNN.out; omega); intro v9 w9 ho hb hgr hat; have HO9 := Aside0.mk ho; have HB9 := Aside0.mk hb; have HRd9 := Aside0.mk (HC4'.out.rd.fr (show Fr W.heap.size [74] X w9 by obtain ⟨inner, h⟩ := Kd.R_own HC4'.out.hR; exact Fr.of_grown h (Nat.le_refl _) hgr (by simp)) (by decide)); clear ho hb hgr hat)
      go_roundg j
      case measure => have := HJ.out; omega
      case rel => exact ⟨j, (rdCl s).2, xs ++ [(rdCl s).1], by first | rfl | rw [HWI.out], ⟨rfl, by have := HJ.out; simp; omega⟩, ⟨cls_snoc _ _ _ _ _ HE.out⟩, ⟨HRd9.out⟩, ⟨HO9.out⟩, ⟨HB9.out⟩⟩
    | zero =>
      have hE := HE.out
      simp only [rdCls, List.append_nil] at hE
      have HE2 := Aside0.mk hE
      clear hE HE
      obtain ⟨A5, n5, h5, hl5, hC5⟩ := Kd.R_reads HO.out
      subst h5
      have HC5 := Aside0.mk hC5
      have HLN := Aside0.mk (show xs.length ≤ 9223372036854775807 by have := HJ.out; have := HNN.out; omega)
      clear hC5 hl5
      cases hd : rdDone s with
      | false =>
        have HD := Aside0.mk hd
        have HOF := Aside0.mk (show ofK b = ([], 20) by unfold ofK; rw [HE2.out]; simp only [hd]; simp)
        clear hd
        go_wp2_with (go_at_call 18; refine (rd_done W.heap.size g s _ HRd.out).mono ?_; rintro e w2 ⟨rfl, rfl⟩; simp only [HD.out])
        go_ret2
        refine ⟨.slice none 0 0, by rw [HOF.out]; rfl, ?_, HB.out⟩
        rw [HOF.out]
        exact Kd.R_nil _ _ _ _ _
      | true =>
        have HD := Aside0.mk hd
        by_cases he : confE xs = 0
        · have HEE := Aside0.mk he
          have HOF := Aside0.mk (show ofK b = (xs, 0) by unfold ofK; rw [HE2.out]; simp only [hd, he]; simp)
          clear hd he
          go_wp2_with (first | (go_at_call 18; refine (rd_done W.heap.size g s _ HRd.out).mono ?_; rintro e w2 ⟨rfl, rfl⟩; simp only [HD.out]) | (go_at_call 45; refine (right13_calls A5 n5 xs _ HC5.out HLN.out).mono ?_; rw [HEE.out]; rintro e w3 ⟨rfl, hb⟩; have HO3 := Aside0.mk (Kd.R_below HO.out hb); have HB3 := Aside0.mk (below_step HB.out hb); clear hb))
          go_ret2
          refine ⟨.slice A5 xs.length n5, by rw [HOF.out]; rfl, ?_, HB3.out⟩
          rw [HOF.out]
          exact HO3.out
        · have HOF := Aside0.mk (show ofK b = ([], 20) by unfold ofK; rw [HE2.out]; simp only [hd]; simp [he])
          have he' : (confE xs != 0) = true := bne_iff_ne.mpr he
          clear hd he
          go_wp2_with (first | (go_at_call 18; refine (rd_done W.heap.size g s _ HRd.out).mono ?_; rintro e w2 ⟨rfl, rfl⟩; simp only [HD.out]) | (go_at_call 45; refine (right13_calls A5 n5 xs _ HC5.out HLN.out).mono ?_; rintro e w3 ⟨rfl, hb⟩; have HB3 := Aside0.mk (below_step HB.out hb); clear hb))
          go_ret2
          refine ⟨.slice none 0 0, by rw [HOF.out]; rfl, ?_, HB3.out⟩
          rw [HOF.out]
          exact Kd.R_nil _ _ _ _ _
end Go.Proofs.Ytabfjjcbceibpaa.Sep
namespace Go.Proofs.Ytabfjjcbceibpaa.Sep
set_option linter.unusedSimpArgs false
set_option linter.unusedVariables false
open Go.RowKit Go.Proofs.Ytabfjjcbceibpaa.PCore Go.Proofs.Ytabfjjcbceibpaa.Plain Go.Proofs.YtabfjjcbceibpaaW.PrintWords Go.Proofs.YtabfjjcbceibpaaW.PrintLast Go.Proofs.YtabfjjcbceibpaaW.PrintMore
open Go.Proofs.Ytabfjjcbceibpaa.PDat (S72 k72 S74 k74 z74 rd_T74 at_T74)
theorem text_one {s t : ByteArray} : s.toList = t.toList ↔ s = t := ⟨fun h => by
  rw [ByteArray.toList_eq, ByteArray.toList_eq] at h
  obtain ⟨⟨x⟩⟩ := s
  obtain ⟨⟨y⟩⟩ := t
  simp only at h
  rw [h], fun h => by rw [h]⟩
open Classical in
/-- Whether rows are one. -/
noncomputable def oneL (a b : List Clash) : Bool := decide (a = b)
theorem oneL_self (a : List Clash) : oneL a a = true := by simp [oneL]
theorem oneL_iff (a b : List Clash) : oneL a b = true ↔ a = b := by simp [oneL]
theorem cl_alike (x y : Clash) : (!(((x).f0).toList == ((y).f0).toList) || ((!((x).f1.f0 == (y).f1.f0) || (!(((x).f1.f1).toList == ((y).f1.f1).toList))) || ((!((x).f2.f0 == (y).f2.f0) || (!(((x).f2.f1).toList == ((y).f2.f1).toList))) || ((!((x).f3.f0 == (y).f3.f0) || (!(((x).f3.f1).toList == ((y).f3.f1).toList))))))) = true ↔ x ≠ y := by
  obtain ⟨a, ⟨b1, b2⟩, ⟨c1, c2⟩, ⟨d1, d2⟩⟩ := x
  obtain ⟨a', ⟨b1', b2'⟩, ⟨c1', c2'⟩, ⟨d1', d2'⟩⟩ := y
  simp only [← Bool.not_and, Bool.not_eq_true', ne_eq, PDat.S74.mk.injEq, PDat.S72.mk.injEq]
  rw [← Bool.not_eq_true, Bool.and_eq_true, Bool.and_eq_true, Bool.and_eq_true, Bool.and_eq_true, Bool.and_eq_true, Bool.and_eq_true]
  simp only [beq_iff_eq, text_one]
theorem encS_in (s : Side) : ∀ x ∈ encS s, 0 ≤ x ∧ x < 256 := by
  intro x hx
  rcases List.mem_append.1 hx with h | h
  · exact encB_in _ x h
  · exact encT_in _ x h
theorem encL_in (l : List Clash) : ∀ x ∈ encL l, 0 ≤ x ∧ x < 256 := by
  intro x hx
  rcases List.mem_append.1 hx with h | h
  · exact enc_in (by omega) x h
  · simp only [encCls, List.mem_flatten, List.mem_map] at h
    obtain ⟨_, ⟨c, _, rfl⟩, h⟩ := h
    simp only [encCl, sidesEnc, List.mem_append, List.not_mem_nil, false_or] at h
    rcases h with h | ((h | h) | h)
    · exact encT_in _ x h
    · exact encS_in _ x h
    · exact encS_in _ x h
    · exact encS_in _ x h
theorem putL_in (l : List Clash) : ∀ x ∈ putL l, 0 ≤ x ∧ x < 256 := by
  intro x hx
  unfold putL at hx
  split at hx
  · exact encL_in l x hx
  · simp at hx
theorem putL_fine {l : List Clash} : Fine (putL l, false) := by
  refine ⟨putL_in l, ?_, fun h => by simp at h⟩
  show (putL l).length ≤ 1000000
  unfold putL
  split
  · rename_i h
    obtain ⟨_, h2, h3⟩ := putE_zero h
    have h4 := encCls_len h3
    have h5 := enc_len_u64 (n := (l.length : Int)) (by omega) (by omega)
    simp only [encL, List.length_append]
    omega
  · simp
theorem ofK_put {l : List Clash} (h : putE l = 0) : ofK (putL l) = (l, 0) := by
  unfold putL
  rw [if_pos h]
  exact ofK_enc l h
theorem ofK_cases {b : List Int} (hF : Fine (b, false)) : ofK b = ([], 20) ∨ ∃ m, ofK b = (m, 0) ∧ putE m = 0 ∧ putL m = b ∧ m.length ≤ 1000 := by
  by_cases h : (ofK b).2 = 0
  · obtain ⟨h1, h2⟩ := ofK_bytes hF h
    refine .inr ⟨(ofK b).1, Prod.ext rfl h, h2, ?_, ofK_len hF⟩
    unfold putL
    rw [if_pos h2, h1]
  · refine .inl ?_
    unfold ofK at h ⊢
    split at h
    · exact absurd rfl h
    · rename_i hc
      rw [if_neg hc]
theorem putB (A : Option Addr) (n : Nat) (l : List Clash) (W : World) (hC : Kd.C k74 W A l.length l) (hn : l.length ≤ 9223372036854775807) :
    Calls Try.prog 29 #[.slice A l.length n] W fun e W1 => ∃ B m, e = .returned (.tuple #[.slice B (putL l).length m, .int .i64 (putE l)]) ∧ (putL l).length ≤ m ∧ Kd.C (Kd.int .u8) W1 B (putL l).length (putL l) ∧ Below W.heap.size W W1 :=
  (put13_calls A n l W hC hn).mono fun e W1 ⟨v, he, hR, hb⟩ => by
    obtain ⟨B, m, hv, hm, hC1⟩ := Kd.R_reads hR
    subst hv
    exact ⟨B, m, he, hm, hC1, hb⟩
theorem ofB (A : Option Addr) (n : Nat) (b : List Int) (m : List Clash) (r : Int) (W : World) (hC : Kd.C (Kd.int .u8) W A b.length b) (hF : Fine (b, false)) (h : ofK b = (m, r)) :
    Calls Try.prog 17 #[.slice A b.length n] W fun e W1 => ∃ B k, e = .returned (.tuple #[.slice B m.length k, .int .i64 r]) ∧ m.length ≤ k ∧ Kd.C k74 W1 B m.length m ∧ Below W.heap.size W W1 := by
  have := of13_calls A n b W hC hF
  rw [h] at this
  exact this.mono fun e W1 ⟨v, he, hR, hb⟩ => by
    obtain ⟨B, k, hv, hm, hC1⟩ := Kd.R_reads hR
    subst hv
    exact ⟨B, k, he, hm, hC1, hb⟩
theorem of_wf_u8 {n : Int} (h : (Lit.int .u8 n).wf = true) : 0 ≤ n ∧ n < 256 := by
  simp [Lit.wf, IntKind.min, IntKind.max, IntKind.signed, IntKind.bits] at h
  omega
end Go.Proofs.Ytabfjjcbceibpaa.Sep
