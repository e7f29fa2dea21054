/- Which clashes may be: the reference's Clashes. Printed by gen3.py. Conditions: the bounds of the statements. · Clashes told of bytes: the reference's ClashesOf. Printed by gen8.py. Conditions: the bounds of the statements. · Which states may be: the reference's State. Printed by gen14.py. Conditions: the bounds of the statements. · A state told of bytes: the walk of the reference's StateOf. Printed by gen15.py. Conditions: the bounds of the statements. -/
import Derived.Test.YtabfjjcbceibpaaStA
import Derived.Test.YtabfjjcbceibpaaRefReader
import Derived.Deep.RegionHeld3
import Derived.Test.YtabfjjcbceibpaaStB
import Derived.Test.YtabfjjcbceibpaaStD
namespace Go.Proofs.Ytabfjjcbceibpaa.Sep
set_option linter.unusedSimpArgs false
set_option linter.unusedVariables false
open Go.RowKit Go.Proofs.Ytabfjjcbceibpaa.PCore Go.Proofs.Ytabfjjcbceibpaa.Plain Go.Proofs.YtabfjjcbceibpaaW.PrintWords Go.Proofs.YtabfjjcbceibpaaW.PrintLast Go.Proofs.YtabfjjcbceibpaaW.PrintMore
open Go.Proofs.Ytabfjjcbceibpaa.PDat (S72 k72 z72 rd_T72 at_T72 S74 k74 z74 rd_T74 at_T74 apographref09_Key.f apographref09_Key.calls apographref09_Val.f apographref09_Val.calls apographref09_plain.f apographref09_Pick.f apographref09_Pick.calls)
theorem rkey_calls (k : ByteArray) (w : World) : Calls Try.prog 59 #[.string k] w fun e w' => e = .returned (.int .i64 (keyE k)) ∧ Below w.heap.size w w' := by
  have h : apographref09_Key.f k = some (keyE k) := by
    unfold apographref09_Key.f keyE
    split
    · rfl
    · split <;> rfl
  exact (apographref09_Key.calls k _ w h).mono fun e w' ⟨h1, h2⟩ => ⟨h1, by first | exact h2 | exact h2.below⟩
def valE (v : ByteArray) : Int := if (v.size : Int) > 200 then 101 else 0
theorem rval_calls (v : ByteArray) (w : World) : Calls Try.prog 60 #[.string v] w fun e w' => e = .returned (.int .i64 (valE v)) ∧ Below w.heap.size w w' := by
  have h : apographref09_Val.f v = some (valE v) := by
    unfold apographref09_Val.f valE
    split <;> rfl
  exact (apographref09_Val.calls v _ w h).mono fun e w' ⟨h1, h2⟩ => ⟨h1, by first | exact h2 | exact h2.below⟩
theorem plain_ok (s : Side) (h : sideE s = 0) : apographref09_plain.f s.f0 s.f1 = some (s.f0, s.f1) := by
  obtain ⟨a, b⟩ := s
  unfold sideE at h
  unfold apographref09_plain.f
  cases a with
  | true => rfl
  | false =>
    simp only [Bool.false_eq_true, if_false] at h ⊢
    by_cases h1 : (b.size : Int) > 200
    · rw [if_pos h1] at h; cases h
    · rw [if_neg h1] at h
      by_cases h2 : b.toList = ([] : List UInt8)
      · have : b = ⟨#[]⟩ := by
          rw [ByteArray.toList_eq] at h2
          obtain ⟨⟨l⟩⟩ := b
          simp only at h2
          rw [h2]
        rw [this]
      · rw [if_neg h2] at h; cases h
theorem confL_bad {p : Option ByteArray} {c : Clash} {l : List Clash} (h : oneE c ≠ 0) : confL p (c :: l) = oneE c := by simp [confL, h]
theorem pick_calls (c : Clash) (w : World) (h1 : sideE c.f1 = 0) (h2 : sideE c.f2 = 0) (h3 : sideE c.f3 = 0) :
    Calls Try.prog 61 #[.agg #[.bool c.f1.f0, .string c.f1.f1], .agg #[.bool c.f2.f0, .string c.f2.f1], .agg #[.bool c.f3.f0, .string c.f3.f1]] w fun e w' => ∃ a b, e = .returned (.tuple #[.agg #[.bool a, .string b], .bool (twin c)]) ∧ Below w.heap.size w w' := by
  have h : ∃ a b, apographref09_Pick.f c.f1.f0 c.f1.f1 c.f2.f0 c.f2.f1 c.f3.f0 c.f3.f1 = some (a, b, twin c) := by
    unfold apographref09_Pick.f
    rw [plain_ok _ h1, plain_ok _ h2, plain_ok _ h3]
    simp only [Option.bind_some]
    by_cases e1 : (c.f2.f0 == c.f3.f0 && (c.f2.f1.toList == c.f3.f1.toList)) = true
    · have ht : twin c = true := by simp only [twin, sideEq, e1, Bool.true_or]
      exact ⟨c.f2.f0, c.f2.f1, by rw [if_pos e1, ht]⟩
    · rw [if_neg e1]
      by_cases e2 : (c.f2.f0 == c.f1.f0 && (c.f2.f1.toList == c.f1.f1.toList)) = true
      · have ht : twin c = true := by simp only [twin, sideEq, e2, Bool.true_or, Bool.or_true]
        exact ⟨c.f3.f0, c.f3.f1, by rw [if_pos e2, ht]⟩
      · rw [if_neg e2]
        have ht : twin c = (c.f3.f0 == c.f1.f0 && (c.f3.f1.toList == c.f1.f1.toList)) := by
          simp only [twin, sideEq]
          rw [Bool.eq_false_iff.2 e1, Bool.eq_false_iff.2 e2, Bool.false_or, Bool.false_or]
        exact ⟨c.f2.f0, c.f2.f1, by rw [ht]⟩
  obtain ⟨a, b, h⟩ := h
  exact (apographref09_Pick.calls _ _ _ _ _ _ a b _ w h).mono fun e w' ⟨h1, h2⟩ => ⟨a, b, h1, by first | exact h2 | exact h2.below⟩
set_option maxHeartbeats 16000000 in
set_option maxRecDepth 100000 in
theorem refClashes_calls (A : Option Addr) (n : Nat) (l : List Clash) (W : World) (hC : Kd.C k74 W A l.length l) (hn : l.length ≤ 9223372036854775807) :
    Calls Try.prog 51 #[.slice A l.length n] W fun e W1 => e = .returned (.int .i64 (confE l)) ∧ Below W.heap.size W W1 := by
  have HC := Aside0.mk hC
  have HN := Aside0.mk hn
  clear hC hn
  have huF := Try.underlying74
  have huS := Try.underlying72
  go_enter Try.func51, Try.ntmps51
  go_wp2
  go_loopg [12] l.length (fun kq v12 w' => ∃ i : Nat, v12 = .int .i64 i ∧ Aside0 (i ≤ l.length ∧ kq = l.length - i) ∧ Aside0 (confE l = confL (prevK l i) (l.drop i)) ∧ Aside0 (Below W.heap.size W w'))
  case atStart => exact ⟨0, rfl, ⟨by omega, by omega⟩, ⟨rfl⟩, ⟨Below.refl _ _⟩⟩
  case round =>
    obtain ⟨i, rfl, HI, HE, HB⟩ := hrel
    by_cases hlt : i < l.length
    · obtain ⟨ad, rfl, h0, h1, h2, h3, h4, h5, h6⟩ := at_T74 (Kd.C_below HC.out HB.out) (i : Int) (by omega) (by omega)
      have hE := HE.out
      rw [cl_drop l i hlt] at hE
      have HE2 := Aside0.mk hE
      have HPS := Aside0.mk (prevK_succ l i)
      clear hE HE
      simp only [Int.toNat_natCast] at h0 h1 h2 h3 h4 h5 h6
      generalize hc : rd_T74 l (i : Int) = c at h0 h1 h2 h3 h4 h5 h6 HE2 HPS
      clear hc
      obtain ⟨f0, ⟨g0, g1⟩, ⟨p0, p1⟩, ⟨q0, q1⟩⟩ := c
      simp only at h0 h1 h2 h3 h4 h5 h6
      have hlt' : (i : Int) < (l.length : Int) := by omega
      have HWI := Aside0.mk (show wrap64 ((i : Int) + 1) = ((i + 1 : Nat) : Int) by have := HN.out; unfold wrap64; omega)
      by_cases hk : keyE f0 = 0
      · have HK := Aside0.mk hk
        clear hk
        go_wp2_with (go_at_call 59; refine (rkey_calls f0 _).mono ?_; rw [HK.out]; rintro e w2 ⟨rfl, hb⟩; have HB2 := Aside0.mk (below_step (below_alloc HB.out _) hb); have HV2 := Aside0.mk ((Fr.of_below (B := 0) (T := []) hb).blk (blk_new wr (.cells #[.string f0, .bool g0, .string g1, .bool p0, .string p1, .bool q0, .string q1] 74)) (by simp)); have v0 : World.cell? w2 ⟨wr.heap.size, 0, none⟩ = some (.string f0) := (blk_cell HV2.out 0).trans rfl; have v1 : World.cell? w2 ⟨wr.heap.size, 1, none⟩ = some (.bool g0) := (blk_cell HV2.out 1).trans rfl; have v2 : World.cell? w2 ⟨wr.heap.size, 2, none⟩ = some (.string g1) := (blk_cell HV2.out 2).trans rfl; have v3 : World.cell? w2 ⟨wr.heap.size, 3, none⟩ = some (.bool p0) := (blk_cell HV2.out 3).trans rfl; have v4 : World.cell? w2 ⟨wr.heap.size, 4, none⟩ = some (.string p1) := (blk_cell HV2.out 4).trans rfl; have v5 : World.cell? w2 ⟨wr.heap.size, 5, none⟩ = some (.bool q0) := (blk_cell HV2.out 5).trans rfl; have v6 : World.cell? w2 ⟨wr.heap.size, 6, none⟩ = some (.string q1) := (blk_cell HV2.out 6).trans rfl; clear hb)
        clear v0 v1 v2 v3 v4 v5 v6
        have HV3 := Aside0.mk (blk_alloc HV2.out (.cells #[.bool g0, .string g1, .bool p0, .string p1, .bool q0, .string q1] 72))
        have HS3 := Aside0.mk (blk_new w2 (.cells #[.bool g0, .string g1, .bool p0, .string p1, .bool q0, .string q1] 72))
        have HB3 := Aside0.mk (below_alloc HB2.out (.cells #[.bool g0, .string g1, .bool p0, .string p1, .bool q0, .string q1] 72))
        generalize w2.alloc (.cells #[.bool g0, .string g1, .bool p0, .string p1, .bool q0, .string q1] 72) = w3 at HV3 HS3 HB3 ⊢
        generalize wr.heap.size = gv at HV3 ⊢
        generalize w2.heap.size = gs at HS3 ⊢
        clear HV2 HB2 h0 h1 h2 h3 h4 h5 h6
        go_loopg [31] 3 (fun kq v31 w' => ∃ k : Nat, v31 = .int .i64 k ∧ Aside0 (k ≤ 3 ∧ kq = 3 - k) ∧ Aside0 (∀ j : Nat, j < k → sideE (sideAt ⟨f0, ⟨g0, g1⟩, ⟨p0, p1⟩, ⟨q0, q1⟩⟩ j) = 0) ∧ Aside0 (Below w3.heap.size w3 w'))
        case atStart => exact ⟨0, rfl, ⟨by omega, by omega⟩, ⟨fun j hj => by omega⟩, ⟨Below.refl _ _⟩⟩
        case round =>
          obtain ⟨k, rfl, HI3, HA, HB4⟩ := hrel
          have hs := (Fr.of_below (B := 0) (T := []) HB4.out).blk HS3.out (by simp)
          have s0 : World.cell? wr ⟨gs, 0, none⟩ = some (.bool g0) := (blk_cell hs 0).trans rfl
          have s1 : World.cell? wr ⟨gs, 1, none⟩ = some (.string g1) := (blk_cell hs 1).trans rfl
          have s2 : World.cell? wr ⟨gs, 2, none⟩ = some (.bool p0) := (blk_cell hs 2).trans rfl
          have s3 : World.cell? wr ⟨gs, 3, none⟩ = some (.string p1) := (blk_cell hs 3).trans rfl
          have s4 : World.cell? wr ⟨gs, 4, none⟩ = some (.bool q0) := (blk_cell hs 4).trans rfl
          have s5 : World.cell? wr ⟨gs, 5, none⟩ = some (.string q1) := (blk_cell hs 5).trans rfl
          clear hs
          have HBW := Aside0.mk (below_step HB3.out HB4.out)
          rcases (show k = 0 ∨ k = 1 ∨ k = 2 ∨ k = 3 by have := HI3.out; omega) with rfl | rfl | rfl | rfl
          · by_cases hv : (g1.size : Int) > 200
            · have hs1 : sideE ⟨g0, g1⟩ = 101 := by simp only [sideE]; rw [if_pos hv]
              have HG := Aside0.mk (show confE l = 101 by
                have ho : oneE ⟨f0, ⟨g0, g1⟩, ⟨p0, p1⟩, ⟨q0, q1⟩⟩ = 101 := by
                  unfold oneE
                  rw [if_neg (by simpa using HK.out)]
                  rw [if_pos (by show sideE ⟨g0, g1⟩ ≠ 0; rw [hs1]; decide)]
                  exact hs1
                rw [HE2.out, confL_bad (by rw [ho]; decide), ho])
              have hv1 : valE g1 = 101 := by simp only [valE]; rw [if_pos hv]
              clear hv hs1
              go_wp2_with (go_at_call 60; refine (rval_calls g1 _).mono ?_; rw [hv1]; rintro e w5 ⟨rfl, hb⟩; have HB5 := Aside0.mk (below_step (below_alloc HB4.out _) hb); have hy := (Fr.of_below (B := 0) (T := []) hb).blk (blk_new wr (.cells #[.bool g0, .string g1] 72)) (by simp); have y0 : World.cell? w5 ⟨wr.heap.size, 0, none⟩ = some (.bool g0) := (blk_cell hy 0).trans rfl; have y1 : World.cell? w5 ⟨wr.heap.size, 1, none⟩ = some (.string g1) := (blk_cell hy 1).trans rfl; clear hb hy)
              go_ret
              rw [HG.out]
              exact ⟨rfl, below_step HB3.out HB5.out⟩
            · have hv1 : valE g1 = 0 := by simp only [valE]; rw [if_neg hv]
              cases g0 with
              | true =>
                have HS := Aside0.mk (show sideE ⟨true, g1⟩ = 0 by simp only [sideE]; rw [if_neg hv]; rfl)
                clear hv
                go_wp2_with (go_at_call 60; refine (rval_calls g1 _).mono ?_; rw [hv1]; rintro e w5 ⟨rfl, hb⟩; have HB5 := Aside0.mk (below_step (below_alloc HB4.out _) hb); have hy := (Fr.of_below (B := 0) (T := []) hb).blk (blk_new wr (.cells #[.bool true, .string g1] 72)) (by simp); have y0 : World.cell? w5 ⟨wr.heap.size, 0, none⟩ = some (.bool true) := (blk_cell hy 0).trans rfl; have y1 : World.cell? w5 ⟨wr.heap.size, 1, none⟩ = some (.string g1) := (blk_cell hy 1).trans rfl; clear hb hy)
                go_roundg 2
                case measure => have := HI3.out; omega
                case rel => exact ⟨1, rfl, ⟨by omega, by omega⟩, ⟨fun j hj => by
                  rcases (show j < 0 ∨ j = 0 by omega) with h | rfl
                  · exact HA.out j h
                  · exact HS.out⟩, ⟨HB5.out⟩⟩
              | false =>
                by_cases hy : g1.toList = ([] : List UInt8)
                · have HS := Aside0.mk (show sideE ⟨false, g1⟩ = 0 by simp only [sideE]; rw [if_neg hv, if_neg (by decide), if_pos hy])
                  have hy' : (g1.toList != ([] : List UInt8)) = false := bne_eq_false_iff_eq.mpr hy
                  have hy2 : (g1.toList == ([] : List UInt8)) = true := beq_iff_eq.mpr hy
                  clear hv
                  go_wp2_with (go_at_call 60; refine (rval_calls g1 _).mono ?_; rw [hv1]; rintro e w5 ⟨rfl, hb⟩; have HB5 := Aside0.mk (below_step (below_alloc HB4.out _) hb); have hy := (Fr.of_below (B := 0) (T := []) hb).blk (blk_new wr (.cells #[.bool false, .string g1] 72)) (by simp); have y0 : World.cell? w5 ⟨wr.heap.size, 0, none⟩ = some (.bool false) := (blk_cell hy 0).trans rfl; have y1 : World.cell? w5 ⟨wr.heap.size, 1, none⟩ = some (.string g1) := (blk_cell hy 1).trans rfl; clear hb hy)
                  go_roundg 2
                  case measure => have := HI3.out; omega
                  case rel => exact ⟨1, rfl, ⟨by omega, by omega⟩, ⟨fun j hj => by
                    rcases (show j < 0 ∨ j = 0 by omega) with h | rfl
                    · exact HA.out j h
                    · exact HS.out⟩, ⟨HB5.out⟩⟩
                · have hs1 : sideE ⟨false, g1⟩ = 101 := by simp only [sideE]; rw [if_neg hv, if_neg (by decide), if_neg hy]
                  have hy' : (g1.toList != ([] : List UInt8)) = true := bne_iff_ne.mpr hy
                  have hy2 : (g1.toList == ([] : List UInt8)) = false := beq_eq_false_iff_ne.mpr hy
                  have HG := Aside0.mk (show confE l = 101 by
                    have ho : oneE ⟨f0, ⟨false, g1⟩, ⟨p0, p1⟩, ⟨q0, q1⟩⟩ = 101 := by
                      unfold oneE
                      rw [if_neg (by simpa using HK.out)]
                      rw [if_pos (by show sideE ⟨false, g1⟩ ≠ 0; rw [hs1]; decide)]
                      exact hs1
                    rw [HE2.out, confL_bad (by rw [ho]; decide), ho])
                  clear hv hs1 hy
                  go_wp2_with (go_at_call 60; refine (rval_calls g1 _).mono ?_; rw [hv1]; rintro e w5 ⟨rfl, hb⟩; have HB5 := Aside0.mk (below_step (below_alloc HB4.out _) hb); have hy := (Fr.of_below (B := 0) (T := []) hb).blk (blk_new wr (.cells #[.bool false, .string g1] 72)) (by simp); have y0 : World.cell? w5 ⟨wr.heap.size, 0, none⟩ = some (.bool false) := (blk_cell hy 0).trans rfl; have y1 : World.cell? w5 ⟨wr.heap.size, 1, none⟩ = some (.string g1) := (blk_cell hy 1).trans rfl; clear hb hy)
                  go_ret
                  rw [HG.out]
                  exact ⟨rfl, below_step HB3.out HB5.out⟩
          · by_cases hv : (p1.size : Int) > 200
            · have hs1 : sideE ⟨p0, p1⟩ = 101 := by simp only [sideE]; rw [if_pos hv]
              have HG := Aside0.mk (show confE l = 101 by
                have ho : oneE ⟨f0, ⟨g0, g1⟩, ⟨p0, p1⟩, ⟨q0, q1⟩⟩ = 101 := by
                  unfold oneE
                  rw [if_neg (by simpa using HK.out)]
                  rw [if_neg (by have := HA.out 0 (by omega); simpa [sideAt] using this)]; rw [if_pos (by show sideE ⟨p0, p1⟩ ≠ 0; rw [hs1]; decide)]
                  exact hs1
                rw [HE2.out, confL_bad (by rw [ho]; decide), ho])
              have hv1 : valE p1 = 101 := by simp only [valE]; rw [if_pos hv]
              clear hv hs1
              go_wp2_with (go_at_call 60; refine (rval_calls p1 _).mono ?_; rw [hv1]; rintro e w5 ⟨rfl, hb⟩; have HB5 := Aside0.mk (below_step (below_alloc HB4.out _) hb); have hy := (Fr.of_below (B := 0) (T := []) hb).blk (blk_new wr (.cells #[.bool p0, .string p1] 72)) (by simp); have y0 : World.cell? w5 ⟨wr.heap.size, 0, none⟩ = some (.bool p0) := (blk_cell hy 0).trans rfl; have y1 : World.cell? w5 ⟨wr.heap.size, 1, none⟩ = some (.string p1) := (blk_cell hy 1).trans rfl; clear hb hy)
              go_ret
              rw [HG.out]
              exact ⟨rfl, below_step HB3.out HB5.out⟩
            · have hv1 : valE p1 = 0 := by simp only [valE]; rw [if_neg hv]
              cases p0 with
              | true =>
                have HS := Aside0.mk (show sideE ⟨true, p1⟩ = 0 by simp only [sideE]; rw [if_neg hv]; rfl)
                clear hv
                go_wp2_with (go_at_call 60; refine (rval_calls p1 _).mono ?_; rw [hv1]; rintro e w5 ⟨rfl, hb⟩; have HB5 := Aside0.mk (below_step (below_alloc HB4.out _) hb); have hy := (Fr.of_below (B := 0) (T := []) hb).blk (blk_new wr (.cells #[.bool true, .string p1] 72)) (by simp); have y0 : World.cell? w5 ⟨wr.heap.size, 0, none⟩ = some (.bool true) := (blk_cell hy 0).trans rfl; have y1 : World.cell? w5 ⟨wr.heap.size, 1, none⟩ = some (.string p1) := (blk_cell hy 1).trans rfl; clear hb hy)
                go_roundg 1
                case measure => have := HI3.out; omega
                case rel => exact ⟨2, rfl, ⟨by omega, by omega⟩, ⟨fun j hj => by
                  rcases (show j < 1 ∨ j = 1 by omega) with h | rfl
                  · exact HA.out j h
                  · exact HS.out⟩, ⟨HB5.out⟩⟩
              | false =>
                by_cases hy : p1.toList = ([] : List UInt8)
                · have HS := Aside0.mk (show sideE ⟨false, p1⟩ = 0 by simp only [sideE]; rw [if_neg hv, if_neg (by decide), if_pos hy])
                  have hy' : (p1.toList != ([] : List UInt8)) = false := bne_eq_false_iff_eq.mpr hy
                  have hy2 : (p1.toList == ([] : List UInt8)) = true := beq_iff_eq.mpr hy
                  clear hv
                  go_wp2_with (go_at_call 60; refine (rval_calls p1 _).mono ?_; rw [hv1]; rintro e w5 ⟨rfl, hb⟩; have HB5 := Aside0.mk (below_step (below_alloc HB4.out _) hb); have hy := (Fr.of_below (B := 0) (T := []) hb).blk (blk_new wr (.cells #[.bool false, .string p1] 72)) (by simp); have y0 : World.cell? w5 ⟨wr.heap.size, 0, none⟩ = some (.bool false) := (blk_cell hy 0).trans rfl; have y1 : World.cell? w5 ⟨wr.heap.size, 1, none⟩ = some (.string p1) := (blk_cell hy 1).trans rfl; clear hb hy)
                  go_roundg 1
                  case measure => have := HI3.out; omega
                  case rel => exact ⟨2, rfl, ⟨by omega, by omega⟩, ⟨fun j hj => by
                    rcases (show j < 1 ∨ j = 1 by omega) with h | rfl
                    · exact HA.out j h
                    · exact HS.out⟩, ⟨HB5.out⟩⟩
                · have hs1 : sideE ⟨false, p1⟩ = 101 := by simp only [sideE]; rw [if_neg hv, if_neg (by decide), if_neg hy]
                  have hy' : (p1.toList != ([] : List UInt8)) = true := bne_iff_ne.mpr hy
                  have hy2 : (p1.toList == ([] : List UInt8)) = false := beq_eq_false_iff_ne.mpr hy
                  have HG := Aside0.mk (show confE l = 101 by
                    have ho : oneE ⟨f0, ⟨g0, g1⟩, ⟨false, p1⟩, ⟨q0, q1⟩⟩ = 101 := by
                      unfold oneE
                      rw [if_neg (by simpa using HK.out)]
                      rw [if_neg (by have := HA.out 0 (by omega); simpa [sideAt] using this)]; rw [if_pos (by show sideE ⟨false, p1⟩ ≠ 0; rw [hs1]; decide)]
                      exact hs1
                    rw [HE2.out, confL_bad (by rw [ho]; decide), ho])
                  clear hv hs1 hy
                  go_wp2_with (go_at_call 60; refine (rval_calls p1 _).mono ?_; rw [hv1]; rintro e w5 ⟨rfl, hb⟩; have HB5 := Aside0.mk (below_step (below_alloc HB4.out _) hb); have hy := (Fr.of_below (B := 0) (T := []) hb).blk (blk_new wr (.cells #[.bool false, .string p1] 72)) (by simp); have y0 : World.cell? w5 ⟨wr.heap.size, 0, none⟩ = some (.bool false) := (blk_cell hy 0).trans rfl; have y1 : World.cell? w5 ⟨wr.heap.size, 1, none⟩ = some (.string p1) := (blk_cell hy 1).trans rfl; clear hb hy)
                  go_ret
                  rw [HG.out]
                  exact ⟨rfl, below_step HB3.out HB5.out⟩
          · by_cases hv : (q1.size : Int) > 200
            · have hs1 : sideE ⟨q0, q1⟩ = 101 := by simp only [sideE]; rw [if_pos hv]
              have HG := Aside0.mk (show confE l = 101 by
                have ho : oneE ⟨f0, ⟨g0, g1⟩, ⟨p0, p1⟩, ⟨q0, q1⟩⟩ = 101 := by
                  unfold oneE
                  rw [if_neg (by simpa using HK.out)]
                  rw [if_neg (by have := HA.out 0 (by omega); simpa [sideAt] using this)]; rw [if_neg (by have := HA.out 1 (by omega); simpa [sideAt] using this)]; rw [if_pos (by show sideE ⟨q0, q1⟩ ≠ 0; rw [hs1]; decide)]
                  exact hs1
                rw [HE2.out, confL_bad (by rw [ho]; decide), ho])
              have hv1 : valE q1 = 101 := by simp only [valE]; rw [if_pos hv]
              clear hv hs1
              go_wp2_with (go_at_call 60; refine (rval_calls q1 _).mono ?_; rw [hv1]; rintro e w5 ⟨rfl, hb⟩; have HB5 := Aside0.mk (below_step (below_alloc HB4.out _) hb); have hy := (Fr.of_below (B := 0) (T := []) hb).blk (blk_new wr (.cells #[.bool q0, .string q1] 72)) (by simp); have y0 : World.cell? w5 ⟨wr.heap.size, 0, none⟩ = some (.bool q0) := (blk_cell hy 0).trans rfl; have y1 : World.cell? w5 ⟨wr.heap.size, 1, none⟩ = some (.string q1) := (blk_cell hy 1).trans rfl; clear hb hy)
              go_ret
              rw [HG.out]
              exact ⟨rfl, below_step HB3.out HB5.out⟩
            · have hv1 : valE q1 = 0 := by simp only [valE]; rw [if_neg hv]
              cases q0 with
              | true =>
                have HS := Aside0.mk (show sideE ⟨true, q1⟩ = 0 by simp only [sideE]; rw [if_neg hv]; rfl)
                clear hv
                go_wp2_with (go_at_call 60; refine (rval_calls q1 _).mono ?_; rw [hv1]; rintro e w5 ⟨rfl, hb⟩; have HB5 := Aside0.mk (below_step (below_alloc HB4.out _) hb); have hy := (Fr.of_below (B := 0) (T := []) hb).blk (blk_new wr (.cells #[.bool true, .string q1] 72)) (by simp); have y0 : World.cell? w5 ⟨wr.heap.size, 0, none⟩ = some (.bool true) := (blk_cell hy 0).trans rfl; have y1 : World.cell? w5 ⟨wr.heap.size, 1, none⟩ = some (.string q1) := (blk_cell hy 1).trans rfl; clear hb hy)
                go_roundg 0
                case measure => have := HI3.out; omega
                case rel => exact ⟨3, rfl, ⟨by omega, by omega⟩, ⟨fun j hj => by
                  rcases (show j < 2 ∨ j = 2 by omega) with h | rfl
                  · exact HA.out j h
                  · exact HS.out⟩, ⟨HB5.out⟩⟩
              | false =>
                by_cases hy : q1.toList = ([] : List UInt8)
                · have HS := Aside0.mk (show sideE ⟨false, q1⟩ = 0 by simp only [sideE]; rw [if_neg hv, if_neg (by decide), if_pos hy])
                  have hy' : (q1.toList != ([] : List UInt8)) = false := bne_eq_false_iff_eq.mpr hy
                  have hy2 : (q1.toList == ([] : List UInt8)) = true := beq_iff_eq.mpr hy
                  clear hv
                  go_wp2_with (go_at_call 60; refine (rval_calls q1 _).mono ?_; rw [hv1]; rintro e w5 ⟨rfl, hb⟩; have HB5 := Aside0.mk (below_step (below_alloc HB4.out _) hb); have hy := (Fr.of_below (B := 0) (T := []) hb).blk (blk_new wr (.cells #[.bool false, .string q1] 72)) (by simp); have y0 : World.cell? w5 ⟨wr.heap.size, 0, none⟩ = some (.bool false) := (blk_cell hy 0).trans rfl; have y1 : World.cell? w5 ⟨wr.heap.size, 1, none⟩ = some (.string q1) := (blk_cell hy 1).trans rfl; clear hb hy)
                  go_roundg 0
                  case measure => have := HI3.out; omega
                  case rel => exact ⟨3, rfl, ⟨by omega, by omega⟩, ⟨fun j hj => by
                    rcases (show j < 2 ∨ j = 2 by omega) with h | rfl
                    · exact HA.out j h
                    · exact HS.out⟩, ⟨HB5.out⟩⟩
                · have hs1 : sideE ⟨false, q1⟩ = 101 := by simp only [sideE]; rw [if_neg hv, if_neg (by decide), if_neg hy]
                  have hy' : (q1.toList != ([] : List UInt8)) = true := bne_iff_ne.mpr hy
                  have hy2 : (q1.toList == ([] : List UInt8)) = false := beq_eq_false_iff_ne.mpr hy
                  have HG := Aside0.mk (show confE l = 101 by
                    have ho : oneE ⟨f0, ⟨g0, g1⟩, ⟨p0, p1⟩, ⟨false, q1⟩⟩ = 101 := by
                      unfold oneE
                      rw [if_neg (by simpa using HK.out)]
                      rw [if_neg (by have := HA.out 0 (by omega); simpa [sideAt] using this)]; rw [if_neg (by have := HA.out 1 (by omega); simpa [sideAt] using this)]; rw [if_pos (by show sideE ⟨false, q1⟩ ≠ 0; rw [hs1]; decide)]
                      exact hs1
                    rw [HE2.out, confL_bad (by rw [ho]; decide), ho])
                  clear hv hs1 hy
                  go_wp2_with (go_at_call 60; refine (rval_calls q1 _).mono ?_; rw [hv1]; rintro e w5 ⟨rfl, hb⟩; have HB5 := Aside0.mk (below_step (below_alloc HB4.out _) hb); have hy := (Fr.of_below (B := 0) (T := []) hb).blk (blk_new wr (.cells #[.bool false, .string q1] 72)) (by simp); have y0 : World.cell? w5 ⟨wr.heap.size, 0, none⟩ = some (.bool false) := (blk_cell hy 0).trans rfl; have y1 : World.cell? w5 ⟨wr.heap.size, 1, none⟩ = some (.string q1) := (blk_cell hy 1).trans rfl; clear hb hy)
                  go_ret
                  rw [HG.out]
                  exact ⟨rfl, below_step HB3.out HB5.out⟩
          · have hv3 := (Fr.of_below (B := 0) (T := []) HB4.out).blk HV3.out (by simp)
            have v0 : World.cell? wr ⟨gv, 0, none⟩ = some (.string f0) := (blk_cell hv3 0).trans rfl
            have v1 : World.cell? wr ⟨gv, 1, none⟩ = some (.bool g0) := (blk_cell hv3 1).trans rfl
            have v2 : World.cell? wr ⟨gv, 2, none⟩ = some (.string g1) := (blk_cell hv3 2).trans rfl
            have v3 : World.cell? wr ⟨gv, 3, none⟩ = some (.bool p0) := (blk_cell hv3 3).trans rfl
            have v4 : World.cell? wr ⟨gv, 4, none⟩ = some (.string p1) := (blk_cell hv3 4).trans rfl
            have v5 : World.cell? wr ⟨gv, 5, none⟩ = some (.bool q0) := (blk_cell hv3 5).trans rfl
            have v6 : World.cell? wr ⟨gv, 6, none⟩ = some (.string q1) := (blk_cell hv3 6).trans rfl
            clear hv3
            have HO := Aside0.mk (show oneE ⟨f0, ⟨g0, g1⟩, ⟨p0, p1⟩, ⟨q0, q1⟩⟩ = if twin ⟨f0, ⟨g0, g1⟩, ⟨p0, p1⟩, ⟨q0, q1⟩⟩ = true then 132 else 0 by
              unfold oneE
              rw [if_neg (by simpa using HK.out), if_neg (by have := HA.out 0 (by omega); simpa [sideAt] using this), if_neg (by have := HA.out 1 (by omega); simpa [sideAt] using this), if_neg (by have := HA.out 2 (by omega); simpa [sideAt] using this)])
            go_wp2_with (go_at_call 61; refine (pick_calls ⟨f0, ⟨g0, g1⟩, ⟨p0, p1⟩, ⟨q0, q1⟩⟩ _ (HA.out 0 (by omega)) (HA.out 1 (by omega)) (HA.out 2 (by omega))).mono ?_; rintro e w6 ⟨pa, pb, rfl, hb⟩; have HB6 := Aside0.mk (below_step HB4.out hb); clear hb)
            have HB7 := Aside0.mk (below_step HB3.out (below_alloc HB6.out (.cells #[.bool pa, .string pb] 72)))
            have hv7 := (Fr.of_below (B := 0) (T := []) (below_alloc HB6.out (.cells #[.bool pa, .string pb] 72))).blk HV3.out (by simp)
            clear v0 v1 v2 v3 v4 v5 v6 s0 s1 s2 s3 s4 s5
            generalize w6.alloc (.cells #[.bool pa, .string pb] 72) = w7 at HB7 hv7 ⊢
            have v0 : World.cell? w7 ⟨gv, 0, none⟩ = some (.string f0) := (blk_cell hv7 0).trans rfl
            clear hv7
            cases htw : twin ⟨f0, ⟨g0, g1⟩, ⟨p0, p1⟩, ⟨q0, q1⟩⟩ with
            | true =>
              have HG := Aside0.mk (show confE l = 132 by
                have ho : oneE ⟨f0, ⟨g0, g1⟩, ⟨p0, p1⟩, ⟨q0, q1⟩⟩ = 132 := by rw [HO.out, if_pos htw]
                rw [HE2.out, confL_bad (by rw [ho]; decide), ho])
              go_quiet (fail)
              go_wp2
              go_ret
              rw [HG.out]
              exact ⟨rfl, pw_below_drewN HB7.out _⟩
            | false =>
              have ho : oneE ⟨f0, ⟨g0, g1⟩, ⟨p0, p1⟩, ⟨q0, q1⟩⟩ = 0 := by rw [HO.out, if_neg (by rw [htw]; decide)]
              by_cases hi : i = 0
              · have hi' : decide ((0 : Int) < (i : Int)) = false := decide_eq_false (by omega)
                have hiN : decide (0 < i) = false := decide_eq_false (by omega)
                have HG := Aside0.mk (show confE l = confL (some f0) (l.drop (i + 1)) by
                  rw [HE2.out, prevK, if_pos hi]
                  simp [confL, ho])
                clear hi ho
                go_quiet (fail)
                go_wp2
                go_roundg (l.length - (i + 1))
                case measure => have := HI.out; omega
                case rel => exact ⟨i + 1, by rw [HWI.out], ⟨by omega, rfl⟩, ⟨by rw [HPS.out]; exact HG.out⟩, ⟨pw_below_drewN HB7.out _⟩⟩
              · obtain ⟨j, hj⟩ : ∃ j : Nat, i = j + 1 := ⟨i - 1, by omega⟩
                have hi' : decide ((0 : Int) < (i : Int)) = true := decide_eq_true (by omega)
                have hiN : decide (0 < i) = true := decide_eq_true (by omega)
                have hwj : wrap64 ((i : Int) - 1) = (j : Int) := by have := HN.out; unfold wrap64; omega
                have hwj2 : IntKind.i64.wrap ((i : Int) - 1) = (j : Int) := by first | exact hwj | (rw [i64_w]; exact hwj)
                have hjl : (j : Int) < (l.length : Int) := by omega
                obtain ⟨ad', had, k0, _⟩ := at_T74 (Kd.C_below HC.out HB7.out) (j : Int) (by omega) (by omega)
                obtain rfl : ad = ad' := by injection had
                simp only [Int.toNat_natCast] at k0
                have hpv : prevK l i = some (rd_T74 l (j : Int)).f0 := by rw [hj, prevK_succ]
                generalize (rd_T74 l (j : Int)).f0 = key at k0 hpv
                have HPV := Aside0.mk hpv
                clear hpv
                cases hless : lessK key f0 with
                | true =>
                  have HG := Aside0.mk (show confE l = confL (some f0) (l.drop (i + 1)) by
                    rw [HE2.out, HPV.out]
                    simp [confL, ho, hless])
                  have hl' : Op.bytesLess key.toList f0.toList = true := hless
                  have hge : ∀ w, (binOp .geq 9 (.string key) (.string f0)).run Try.prog w = .ok (.bool false) w := fun w => by rw [str_geq, hl']; rfl
                  clear hi hj ho hless
                  go_quiet (fail)
                  go_wp2
                  go_roundg (l.length - (i + 1))
                  case measure => have := HI.out; omega
                  case rel => exact ⟨i + 1, by rw [HWI.out], ⟨by omega, rfl⟩, ⟨by rw [HPS.out]; exact HG.out⟩, ⟨pw_below_drewN HB7.out _⟩⟩
                | false =>
                  have HG := Aside0.mk (show confE l = 132 by
                    rw [HE2.out, HPV.out]
                    simp [confL, ho, hless])
                  have hl' : Op.bytesLess key.toList f0.toList = false := hless
                  have hge : ∀ w, (binOp .geq 9 (.string key) (.string f0)).run Try.prog w = .ok (.bool true) w := fun w => by rw [str_geq, hl']; rfl
                  clear hi hj ho hless
                  go_quiet (fail)
                  go_wp2
                  go_ret
                  rw [HG.out]
                  exact ⟨rfl, pw_below_drewN HB7.out _⟩
      · have hk' : (keyE f0 != 0) = true := bne_iff_ne.mpr hk
        have HG := Aside0.mk (show confE l = keyE f0 by
          have ho : oneE ⟨f0, ⟨g0, g1⟩, ⟨p0, p1⟩, ⟨q0, q1⟩⟩ = keyE f0 := by unfold oneE; rw [if_pos hk]
          rw [HE2.out]
          simp [confL, ho, hk])
        clear hk
        go_wp2_with (go_at_call 59; refine (rkey_calls f0 _).mono ?_; rintro e w2 ⟨rfl, hb⟩; have HB2 := Aside0.mk (below_step (below_alloc HB.out _) hb); clear hb)
        go_ret
        rw [HG.out]
        exact ⟨rfl, HB2.out⟩
    · have hI : i = l.length := by have := HI.out; omega
      subst hI
      have hE := HE.out
      rw [List.drop_length] at hE
      have HG := Aside0.mk (show confE l = 0 from hE)
      clear hE
      go_wp2
      go_ret
      rw [HG.out]
      exact ⟨rfl, HB.out⟩
end Go.Proofs.Ytabfjjcbceibpaa.Sep
namespace Go.Proofs.Ytabfjjcbceibpaa.Sep
set_option linter.unusedSimpArgs false
set_option linter.unusedVariables false
open Go.RowKit Go.Proofs.Ytabfjjcbceibpaa.PCore Go.Proofs.Ytabfjjcbceibpaa.Plain Go.Proofs.YtabfjjcbceibpaaW.PrintWords Go.Proofs.YtabfjjcbceibpaaW.PrintLast Go.Proofs.YtabfjjcbceibpaaW.PrintMore
open Go.Proofs.Ytabfjjcbceibpaa.PDat (S72 k72 z72 rd_T72 at_T72 S74 k74 z74 rd_T74 at_T74 k74_mkM k72_mkM)
theorem rf_boxK {W w3 : World} {A0 : Option Addr} {c0 : Nat} {b : List Int} (hC0 : Kd.C (Kd.int .u8) W A0 b.length b) (hc0 : b.length ≤ c0) (hF : Fine (b, false)) (hB : Below W.heap.size W w3) :
    RdAt 54 W.heap.size w3.heap.size (w3.alloc (.cells #[.slice A0 b.length c0, .bool false] 54)) (b, false) := by
  refine ⟨A0, c0, blk_new _ _, hB.size, hc0, Kd.C_below (Kd.C_below hC0 hB) (below_alloc (Below.refl _ _) _), fun hp ad e => .inl ?_, hF⟩
  obtain ⟨ad', e', hc⟩ := (show ReadsInt W .u8 A0 b.length b from Kd.reads_of_C (d := 0) hC0).2.2 hp
  rw [e] at e'
  injection e' with e'
  subst e'
  exact World.block_lt_of_cell? _ _ (hc 0 hp)
theorem sd_E2 {T : List Nat} (h : 72 ∉ T) : ∀ q, q ∈ 72 :: (k72).E → q ∉ T := fun q hq => by
  have e : q = 72 := by simpa [k72, Kd.iso, Kd.pair, Kd.int, Kd.scalar, Kd.string, Kd.bool] using hq
  rw [e]
  exact h
/-- The reader behind so many sides; the sides. -/
def stK (s : RS) : Nat → RS
  | 0 => (rdText 40 s).2
  | k + 1 => (rdS (stK s k)).2
def sdK (s : RS) : Nat → List Side
  | 0 => []
  | k + 1 => sdK s k ++ [(rdS (stK s k)).1]
theorem sdK_len (s : RS) : ∀ k, (sdK s k).length = k
  | 0 => rfl
  | k + 1 => by simp [sdK, sdK_len s k]
theorem RdAt.badc {t B g : Nat} {W : World} {s : RS} (h : RdAt t B g W s) : W.cell? ⟨g, 1, none⟩ = some (.bool s.2) := by
  obtain ⟨A, c, hb, _⟩ := h
  exact (blk_cell hb 1).trans rfl
theorem ClSt.below {T : Nat} {W0 : World} {g C : Nat} {w w1 : World} {s : RS} {c : Clash} {v : Value} {xs : List Clash} (h : ClSt T W0 g C w s c v xs) (hb : Below w.heap.size w w1) : ClSt T W0 g C w1 s c v xs :=
  ⟨h.rd.below hb, (Fr.of_below (B := 0) (T := []) hb).blk h.bC (by simp), Kd.R_below h.hR hb, h.le, below_step h.bel hb⟩
theorem ClSt.fr2 {T : Nat} {W0 : World} {g C : Nat} {w w1 : World} {s : RS} {c : Clash} {v : Value} {xs : List Clash} (h : ClSt T W0 g C w s c v xs) (hf : Fr W0.heap.size [72] w w1) (hT : T ∉ [72]) : ClSt T W0 g C w1 s c v xs :=
  ⟨h.rd.fr hf ⟨hT, by decide⟩, hf.blk h.bC (by decide), hf.R h.hR (cl_E (by decide)), h.le, h.bel.trans (hf.below h.bel.size)⟩
theorem sdK3 (s : RS) : rd_T72 (sdK s 3) 0 = (rdS (stK s 0)).1 ∧ rd_T72 (sdK s 3) 1 = (rdS (stK s 1)).1 ∧ rd_T72 (sdK s 3) 2 = (rdS (stK s 2)).1 := by
  simp [sdK, rd_T72]
theorem wrap_up (i : Nat) (h : i ≤ 2000) : IntKind.u64.wrap ((i : Int) + 1) = ((i + 1 : Nat) : Int) := by rw [IntKind.wrap_u64]; omega
set_option maxHeartbeats 16000000 in
set_option maxRecDepth 100000 in
theorem refOf13_calls (A : Option Addr) (n : Nat) (b : List Int) (W : World) (hC : Kd.C (Kd.int .u8) W A b.length b) (hc : b.length ≤ n) (hF : Fine (b, false)) :
    Calls Try.prog 23 #[.slice A b.length n] W fun e W1 => ∃ v, e = .returned (.tuple #[v, .int .i64 (ofK b).2]) ∧ Kd.R k74 74 W1 W.heap.size (fun _ => True) v (ofK b).1 ∧ Below W.heap.size W W1 := by
  have HP := Aside0.mk (rf_boxK hC hc hF (Below.refl _ _))
  have HFF := Aside0.mk hF
  clear hC hc hF
  have huF := Try.underlying74
  have huS := Try.underlying72
  have HNN := Aside0.mk (num_in HFF.out 1000 (by decide))
  have HNI := Aside0.mk (show (rdNum 1000 (b, false)).1 = ((rdNum 1000 (b, false)).1.toNat : Int) by have := HNN.out.1; omega)
  go_enter Try.func23, Try.ntmps23
  go_wp2_with (go_at_call 21; refine (rf_num W.heap.size W.heap.size (b, false) 1000 _ HP.out).mono ?_; rintro e w2 ⟨rfl, hr, hf⟩; have HR2 := Aside0.mk hr; have HB2 := Aside0.mk ((below_alloc (Below.refl W.heap.size W) _).trans (hf.below (below_alloc (Below.refl W.heap.size W) _).size)); clear hr hf)
  go_loopg [6, 7] (rdNum 1000 (b, false)).1.toNat (fun kq v6 v7 w' => ∃ (i j : Nat) (s : RS) (xs : List Clash), v7 = .int .u64 (i : Int) ∧ Aside0 (kq = j ∧ i + j = (rdNum 1000 (b, false)).1.toNat ∧ i = xs.length) ∧ Aside0 (rdCls (rdNum 1000 (b, false)).1.toNat (rdNum 1000 (b, false)).2 = (xs ++ (rdCls j s).1, (rdCls j s).2)) ∧ Aside0 (RdAt 54 W.heap.size W.heap.size w' s) ∧ Aside0 (Kd.R k74 74 w' W.heap.size (fun _ => True) v6 xs) ∧ Aside0 (Below W.heap.size W w'))
  case atStart => exact ⟨0, (rdNum 1000 (b, false)).1.toNat, (rdNum 1000 (b, false)).2, [], rfl, ⟨rfl, by simp, rfl⟩, ⟨by simp⟩, ⟨HR2.out⟩, ⟨Kd.R_nil _ _ _ _ _⟩, ⟨HB2.out⟩⟩
  case round =>
    obtain ⟨i, j, s, xs, rfl, HJ, HE, HRd, HO, HB⟩ := hrel
    have hbad := RdAt.badc HRd.out
    have HWI := Aside0.mk (wrap_up i (by have := HJ.out; have := HNN.out; omega))
    cases hlt : decide ((i : Int) < (rdNum 1000 (b, false)).1) with
    | false =>
      have hj0 : j = 0 := by have := HJ.out; have := HNI.out; have := of_decide_eq_false hlt; omega
      subst hj0
      have hE := HE.out
      simp only [rdCls, List.append_nil] at hE
      have HE2 := Aside0.mk hE
      clear hE HE
      obtain ⟨A5, n5, h5, hl5, hC5⟩ := Kd.R_reads HO.out
      subst h5
      have HC5 := Aside0.mk hC5
      have HLN := Aside0.mk (show xs.length ≤ 9223372036854775807 by have := HJ.out; have := HNN.out; omega)
      clear hC5 hl5
      cases hd : rdDone s with
      | false =>
        have HD := Aside0.mk hd
        have HOF := Aside0.mk (show ofK b = ([], 20) by unfold ofK; rw [HE2.out]; simp only [hd]; simp)
        clear hd
        go_wp2_with (go_at_call 24; refine (rf_done W.heap.size W.heap.size s _ HRd.out).mono ?_; rintro e w3' ⟨rfl, rfl⟩; simp only [HD.out])
        go_ret2
        refine ⟨.slice none 0 0, by rw [HOF.out]; rfl, ?_, HB.out⟩
        rw [HOF.out]
        exact Kd.R_nil _ _ _ _ _
      | true =>
        have HD := Aside0.mk hd
        by_cases he : confE xs = 0
        · have HEE := Aside0.mk he
          have HOF := Aside0.mk (show ofK b = (xs, 0) by unfold ofK; rw [HE2.out]; simp only [hd, he]; simp)
          clear hd he
          go_wp2_with (first | (go_at_call 24; refine (rf_done W.heap.size W.heap.size s _ HRd.out).mono ?_; rintro e w3' ⟨rfl, rfl⟩; simp only [HD.out]) | (go_at_call 51; refine (refClashes_calls A5 n5 xs _ HC5.out HLN.out).mono ?_; rw [HEE.out]; rintro e w3 ⟨rfl, hb⟩; have HO3 := Aside0.mk (Kd.R_below HO.out hb); have HB3 := Aside0.mk (below_step HB.out hb); clear hb))
          go_ret2
          refine ⟨.slice A5 xs.length n5, by rw [HOF.out]; rfl, ?_, HB3.out⟩
          rw [HOF.out]
          exact HO3.out
        · have HOF := Aside0.mk (show ofK b = ([], 20) by unfold ofK; rw [HE2.out]; simp only [hd]; simp [he])
          have he' : (confE xs != 0) = true := bne_iff_ne.mpr he
          clear hd he
          go_wp2_with (first | (go_at_call 24; refine (rf_done W.heap.size W.heap.size s _ HRd.out).mono ?_; rintro e w3' ⟨rfl, rfl⟩; simp only [HD.out]) | (go_at_call 51; refine (refClashes_calls A5 n5 xs _ HC5.out HLN.out).mono ?_; rintro e w3 ⟨rfl, hb⟩; have HB3 := Aside0.mk (below_step HB.out hb); clear hb))
          go_ret2
          refine ⟨.slice none 0 0, by rw [HOF.out]; rfl, ?_, HB3.out⟩
          rw [HOF.out]
          exact Kd.R_nil _ _ _ _ _
    | true =>
      obtain ⟨bs, bad⟩ := s
      cases bad with
      | true =>
        simp only at hbad
        have HD := Aside0.mk (show rdDone (bs, true) = false by simp [rdDone])
        have hOF : ofK b = ([], 20) := by
          have h1 := rdCls_bad j (s := (bs, true)) rfl
          unfold ofK
          rw [HE.out]
          rw [if_neg]
          intro h
          have h2 := (rdDone_iff _).1 h.1
          simp only at h2
          rw [h2] at h1
          cases h1
        have HOF := Aside0.mk hOF
        clear hOF
        go_wp2_with (go_at_call 24; refine (rf_done W.heap.size W.heap.size (bs, true) _ HRd.out).mono ?_; rintro e w3' ⟨rfl, rfl⟩; simp only [HD.out])
        go_ret2
        refine ⟨.slice none 0 0, by rw [HOF.out]; rfl, ?_, HB.out⟩
        rw [HOF.out]
        exact Kd.R_nil _ _ _ _ _
      | false =>
        simp only at hbad
        obtain ⟨j, rfl⟩ : ∃ j', j = j' + 1 := ⟨j - 1, by have := HJ.out; have := HNI.out; have := of_decide_eq_true hlt; omega⟩
        generalize hs : ((bs, false) : RS) = s at HE HRd
        clear hs
        go_wp2_with (go_at_call 20; refine (rf_text W.heap.size W.heap.size s 40 _ HRd.out (by decide)).mono ?_; rintro e w1' ⟨rfl, hr, hf⟩; have HC1 := Aside0.mk (clSt_new hr hf HO.out HB.out (by decide) (rdText 40 s).1); clear hr hf)
        generalize w1'.alloc (.cells #[.string (rdText 40 s).1, .bool false, .string ⟨#[]⟩, .bool false, .string ⟨#[]⟩, .bool false, .string ⟨#[]⟩] 74) = X1 at HC1 ⊢
        generalize w1'.heap.size = C at HC1 ⊢
        go_loopg [9, 10] 3 (fun kq v9 v10 w' => ∃ k : Nat, v10 = .int .i64 (k : Int) ∧ Aside0 (k ≤ 3 ∧ kq = 3 - k) ∧ Aside0 (ClSt 54 W W.heap.size C w' (stK s k) ⟨(rdText 40 s).1, ⟨false, ⟨#[]⟩⟩, ⟨false, ⟨#[]⟩⟩, ⟨false, ⟨#[]⟩⟩⟩ u6 xs) ∧ Aside0 (Kd.R k72 72 w' W.heap.size (fun _ => True) v9 (sdK s k)))
        case atStart => exact ⟨0, rfl, ⟨by omega, by omega⟩, ⟨HC1.out⟩, ⟨Kd.R_nil _ _ _ _ _⟩⟩
        case round =>
          obtain ⟨k, rfl, HI3, HS, HL⟩ := hrel
          cases hk3 : decide ((k : Int) < 3) with
          | true =>
            have HK3 := Aside0.mk (of_decide_eq_true hk3)
            have HWK := Aside0.mk (show wrap64 ((k : Int) + 1) = ((k + 1 : Nat) : Int) by have := HI3.out; unfold wrap64; omega)
            go_upto_region 14 with (first | (go_at_call 20; have hq := HSf.out; clear hq; refine (rf_text W.heap.size W.heap.size _ 200 _ (HSf.out.rd.below (below_alloc (Below.refl _ _) _)) (by decide)).mono ?_; rintro e w6 ⟨rfl, hr, hf⟩; have HS6 := Aside0.mk ((HSf.out.below (below_alloc (Below.refl _ _) _)).fr hr hf (by decide)); have HL6 := Aside0.mk (hf.R (Kd.R_alloc (Kd.R_mono (Kd.R_bound HLf.out) (fun q hq => Nat.ne_of_lt hq.2.2.1)) (.cells #[.bool (rdFlag (stK s k)).1, .string ⟨#[]⟩] 72)) (sd_E2 (by decide))); have hy := hf.blk (blk_new w5 (.cells #[.bool (rdFlag (stK s k)).1, .string ⟨#[]⟩] 72)) (by decide); have HY := Aside0.mk hy; have y0 : World.cell? w6 ⟨w5.heap.size, 0, none⟩ = some (.bool (rdFlag (stK s k)).1) := (blk_cell hy 0).trans rfl; have y1 : World.cell? w6 ⟨w5.heap.size, 1, none⟩ = some (.string ⟨#[]⟩) := (blk_cell hy 1).trans rfl; have zy0 := blk_frozen hy 0; have zy1 := blk_frozen hy 1; have HV := Aside0.mk HSf.out.bel.size; clear hr hf hy HSf HLf) | (go_at_call 22; refine (rf_flag W.heap.size W.heap.size (stK s k) _ HS.out.rd).mono ?_; rintro e w5 ⟨rfl, hr, hf⟩; have HSf := Aside0.mk (HS.out.fr hr hf (by decide)); have HLf := Aside0.mk (hf.R HL.out (sd_E2 (by decide))); clear hr hf))
            have HSx := Aside0.mk (HS6.out.fr2 ((Fr.refl W.heap.size [72] w6).set HY.out HV.out (by simp) 1 (.string (rdText 200 (rdFlag (stK s k)).2).1)) (by decide))
            have HLx := Aside0.mk (Kd.R_far HL6.out (p := ⟨w5.heap.size, 1, none⟩) (fun q hq => hq) (.string (rdText 200 (rdFlag (stK s k)).2).1))
            have hyx := blk_set HY.out 1 (.string (rdText 200 (rdFlag (stK s k)).2).1)
            clear y0 y1 zy0 zy1
            generalize w6.setCell ⟨w5.heap.size, 1, none⟩ (.string (rdText 200 (rdFlag (stK s k)).2).1) = X at HSx HLx hyx ⊢
            have y0 : World.cell? X ⟨w5.heap.size, 0, none⟩ = some (.bool (rdFlag (stK s k)).1) := (blk_cell hyx 0).trans rfl
            have y1 : World.cell? X ⟨w5.heap.size, 1, none⟩ = some (.string (rdText 200 (rdFlag (stK s k)).2).1) := (blk_cell hyx 1).trans rfl
            clear hyx
            go_wp2_with (at_builtin; refine Kd.R_append k72 (w0 := W) W.heap.size rfl (.tmp 42) (.tmp 44) 86 72 (.agg #[.bool false, .string ⟨#[]⟩]) 24 rfl Try.underlying86 (by kernel_rfl) rfl (by decide) (by omega) u9 (sdK s k) (rdS (stK s k)).1 [.bool (rdFlag (stK s k)).1, .string (rdText 200 (rdFlag (stK s k)).2).1] (fun _ => True) (fun _ => False) rfl rfl ?aP (fun _ hk => hk.elim) ?aF ?aO ?aB ?aS ?aL ?_; (case aP => exact k72_mkM _ _ _ _); (case aF => exact fun _ _ => trivial); (case aO => exact Kd.R_mono HLx.out (fun _ _ => trivial)); (case aB => exact HSx.out.bel); (case aS => exact HSx.out.bel.size); (case aL => have := HI3.out; rw [sdK_len]; omega); intro v9' w9 ho hb hgr hat; have HL9 := Aside0.mk ho; have HS9 := Aside0.mk (HSx.out.fr2 (show Fr W.heap.size [72] X w9 by obtain ⟨inner, h⟩ := Kd.R_own HLx.out; exact Fr.of_grown h (Nat.le_refl _) hgr (by simp)) (by decide)); clear ho hb hgr hat)
            go_roundg (3 - (k + 1))
            case measure => have := HI3.out; have := HK3.out; omega
            case rel => exact ⟨k + 1, by rw [HWK.out], ⟨by have := HK3.out; omega, rfl⟩, ⟨HS9.out⟩, ⟨HL9.out⟩⟩
          | false =>
            have hk : k = 3 := by have := HI3.out; have := of_decide_eq_false hk3; omega
            subst hk
            obtain ⟨A9, n9, h9, hl9, hC9⟩ := Kd.R_reads HL.out
            subst h9
            have HSd := Aside0.mk (HS.out.below (below_drew (Below.refl _ _)))
            obtain ⟨ad, rfl, l00, l01⟩ := at_T72 (Kd.C_drew hC9) 0 (by omega) (by rw [sdK_len]; omega)
            obtain ⟨ad1, e1, l10, l11⟩ := at_T72 (Kd.C_drew hC9) 1 (by omega) (by rw [sdK_len]; omega)
            obtain ⟨ad2, e2, l20, l21⟩ := at_T72 (Kd.C_drew hC9) 2 (by omega) (by rw [sdK_len]; omega)
            obtain rfl : ad = ad1 := (by injection e1)
            obtain rfl : ad = ad2 := (by injection e2)
            obtain ⟨q0, q1, q2⟩ := sdK3 s
            rw [q0] at l00 l01
            rw [q1] at l10 l11
            rw [q2] at l20 l21
            have HS1 := HS.out.set1 (by decide) (rdS (stK s 0)).1
            have HS2 := HS1.set2 (by decide) (rdS (stK s 1)).1
            have hF1 : Fr W.heap.size [74] wr ((wr.setCell ⟨C, 1, none⟩ (.bool (rdS (stK s 0)).1.f0)).setCell ⟨C, 2, none⟩ (.string (rdS (stK s 0)).1.f1)) := ((Fr.refl W.heap.size [74] wr).set HS.out.bC HS.out.le (by simp) 1 _).set HS.out.bC HS.out.le (by simp) 2 _
            have hF2 : Fr W.heap.size [74] wr ((((wr.setCell ⟨C, 1, none⟩ (.bool (rdS (stK s 0)).1.f0)).setCell ⟨C, 2, none⟩ (.string (rdS (stK s 0)).1.f1)).setCell ⟨C, 3, none⟩ (.bool (rdS (stK s 1)).1.f0)).setCell ⟨C, 4, none⟩ (.string (rdS (stK s 1)).1.f1)) := (hF1.set' HS1.bC HS.out.le (by simp) 3 _).trans ((Fr.refl W.heap.size [74] _).set' (blk_set HS1.bC 3 _) HS.out.le (by simp) 4 _)
            have hL1 := (Kd.R_reads' (hF1.R HL.out (sd_E2 (by decide)))).2.2
            have hL2 := (Kd.R_reads' (hF2.R HL.out (sd_E2 (by decide)))).2.2
            obtain ⟨b11, e11, h110, h111⟩ := at_T72 hL1 1 (by omega) (by rw [sdK_len]; omega)
            obtain rfl : ad = b11 := (by injection e11)
            rw [q1] at h110 h111
            have i1100 : World.cell? ((wr.setCell ⟨C, 1, none⟩ (.bool (rdS (stK s 0)).1.f0)).setCell ⟨C, 2, none⟩ (.string (rdS (stK s 0)).1.f1)) ⟨ad.block, ad.off + 2, none⟩ = some (.bool (rdS (stK s 1)).1.f0) := h110
            have i1110 : World.cell? ((wr.setCell ⟨C, 1, none⟩ (.bool (rdS (stK s 0)).1.f0)).setCell ⟨C, 2, none⟩ (.string (rdS (stK s 0)).1.f1)) ⟨ad.block, ad.off + 2 + 1, none⟩ = some (.string (rdS (stK s 1)).1.f1) := h111
            have i1111 : World.cell? ((wr.setCell ⟨C, 1, none⟩ (.bool (rdS (stK s 0)).1.f0)).setCell ⟨C, 2, none⟩ (.string (rdS (stK s 0)).1.f1)) ⟨ad.block, ad.off + 3, none⟩ = some (.string (rdS (stK s 1)).1.f1) := h111
            clear e11 h110 h111
            obtain ⟨b12, e12, h120, h121⟩ := at_T72 hL1 2 (by omega) (by rw [sdK_len]; omega)
            obtain rfl : ad = b12 := (by injection e12)
            rw [q2] at h120 h121
            have i1200 : World.cell? ((wr.setCell ⟨C, 1, none⟩ (.bool (rdS (stK s 0)).1.f0)).setCell ⟨C, 2, none⟩ (.string (rdS (stK s 0)).1.f1)) ⟨ad.block, ad.off + 4, none⟩ = some (.bool (rdS (stK s 2)).1.f0) := h120
            have i1210 : World.cell? ((wr.setCell ⟨C, 1, none⟩ (.bool (rdS (stK s 0)).1.f0)).setCell ⟨C, 2, none⟩ (.string (rdS (stK s 0)).1.f1)) ⟨ad.block, ad.off + 4 + 1, none⟩ = some (.string (rdS (stK s 2)).1.f1) := h121
            have i1211 : World.cell? ((wr.setCell ⟨C, 1, none⟩ (.bool (rdS (stK s 0)).1.f0)).setCell ⟨C, 2, none⟩ (.string (rdS (stK s 0)).1.f1)) ⟨ad.block, ad.off + 5, none⟩ = some (.string (rdS (stK s 2)).1.f1) := h121
            clear e12 h120 h121
            obtain ⟨b21, e21, h210, h211⟩ := at_T72 hL2 1 (by omega) (by rw [sdK_len]; omega)
            obtain rfl : ad = b21 := (by injection e21)
            rw [q1] at h210 h211
            have i2100 : World.cell? ((((wr.setCell ⟨C, 1, none⟩ (.bool (rdS (stK s 0)).1.f0)).setCell ⟨C, 2, none⟩ (.string (rdS (stK s 0)).1.f1)).setCell ⟨C, 3, none⟩ (.bool (rdS (stK s 1)).1.f0)).setCell ⟨C, 4, none⟩ (.string (rdS (stK s 1)).1.f1)) ⟨ad.block, ad.off + 2, none⟩ = some (.bool (rdS (stK s 1)).1.f0) := h210
            have i2110 : World.cell? ((((wr.setCell ⟨C, 1, none⟩ (.bool (rdS (stK s 0)).1.f0)).setCell ⟨C, 2, none⟩ (.string (rdS (stK s 0)).1.f1)).setCell ⟨C, 3, none⟩ (.bool (rdS (stK s 1)).1.f0)).setCell ⟨C, 4, none⟩ (.string (rdS (stK s 1)).1.f1)) ⟨ad.block, ad.off + 2 + 1, none⟩ = some (.string (rdS (stK s 1)).1.f1) := h211
            have i2111 : World.cell? ((((wr.setCell ⟨C, 1, none⟩ (.bool (rdS (stK s 0)).1.f0)).setCell ⟨C, 2, none⟩ (.string (rdS (stK s 0)).1.f1)).setCell ⟨C, 3, none⟩ (.bool (rdS (stK s 1)).1.f0)).setCell ⟨C, 4, none⟩ (.string (rdS (stK s 1)).1.f1)) ⟨ad.block, ad.off + 3, none⟩ = some (.string (rdS (stK s 1)).1.f1) := h211
            clear e21 h210 h211
            obtain ⟨b22, e22, h220, h221⟩ := at_T72 hL2 2 (by omega) (by rw [sdK_len]; omega)
            obtain rfl : ad = b22 := (by injection e22)
            rw [q2] at h220 h221
            have i2200 : World.cell? ((((wr.setCell ⟨C, 1, none⟩ (.bool (rdS (stK s 0)).1.f0)).setCell ⟨C, 2, none⟩ (.string (rdS (stK s 0)).1.f1)).setCell ⟨C, 3, none⟩ (.bool (rdS (stK s 1)).1.f0)).setCell ⟨C, 4, none⟩ (.string (rdS (stK s 1)).1.f1)) ⟨ad.block, ad.off + 4, none⟩ = some (.bool (rdS (stK s 2)).1.f0) := h220
            have i2210 : World.cell? ((((wr.setCell ⟨C, 1, none⟩ (.bool (rdS (stK s 0)).1.f0)).setCell ⟨C, 2, none⟩ (.string (rdS (stK s 0)).1.f1)).setCell ⟨C, 3, none⟩ (.bool (rdS (stK s 1)).1.f0)).setCell ⟨C, 4, none⟩ (.string (rdS (stK s 1)).1.f1)) ⟨ad.block, ad.off + 4 + 1, none⟩ = some (.string (rdS (stK s 2)).1.f1) := h221
            have i2211 : World.cell? ((((wr.setCell ⟨C, 1, none⟩ (.bool (rdS (stK s 0)).1.f0)).setCell ⟨C, 2, none⟩ (.string (rdS (stK s 0)).1.f1)).setCell ⟨C, 3, none⟩ (.bool (rdS (stK s 1)).1.f0)).setCell ⟨C, 4, none⟩ (.string (rdS (stK s 1)).1.f1)) ⟨ad.block, ad.off + 5, none⟩ = some (.string (rdS (stK s 2)).1.f1) := h221
            clear e22 h220 h221
            have HS3 := Aside0.mk (HS2.set3 (by decide) (rdS (stK s 2)).1)
            have HF2 := Aside0.mk hF2
            clear HS1 HS2 hF1 hF2 hL1 hL2
            rw [sdK_len]
            obtain ⟨c0, c1, c2, c3, c4, c5, c6⟩ := cla_cells HSd.out.bC
            have z1 := blk_frozen HSd.out.bC 1
            have z2 := blk_frozen HSd.out.bC 2
            have z3 := blk_frozen HSd.out.bC 3
            have z4 := blk_frozen HSd.out.bC 4
            have z5 := blk_frozen HSd.out.bC 5
            have z6 := blk_frozen HSd.out.bC 6
            have md010 : World.cell? wr.drew ⟨ad.block, ad.off + 1, none⟩ = some (.string (rdS (stK s 0)).1.f1) := l01
            have md100 : World.cell? wr.drew ⟨ad.block, ad.off + 2, none⟩ = some (.bool (rdS (stK s 1)).1.f0) := l10
            have md110 : World.cell? wr.drew ⟨ad.block, ad.off + 2 + 1, none⟩ = some (.string (rdS (stK s 1)).1.f1) := l11
            have md111 : World.cell? wr.drew ⟨ad.block, ad.off + 3, none⟩ = some (.string (rdS (stK s 1)).1.f1) := l11
            have md200 : World.cell? wr.drew ⟨ad.block, ad.off + 4, none⟩ = some (.bool (rdS (stK s 2)).1.f0) := l20
            have md210 : World.cell? wr.drew ⟨ad.block, ad.off + 4 + 1, none⟩ = some (.string (rdS (stK s 2)).1.f1) := l21
            have md211 : World.cell? wr.drew ⟨ad.block, ad.off + 5, none⟩ = some (.string (rdS (stK s 2)).1.f1) := l21
            have mw010 : World.cell? wr ⟨ad.block, ad.off + 1, none⟩ = some (.string (rdS (stK s 0)).1.f1) := l01
            have mw100 : World.cell? wr ⟨ad.block, ad.off + 2, none⟩ = some (.bool (rdS (stK s 1)).1.f0) := l10
            have mw110 : World.cell? wr ⟨ad.block, ad.off + 2 + 1, none⟩ = some (.string (rdS (stK s 1)).1.f1) := l11
            have mw111 : World.cell? wr ⟨ad.block, ad.off + 3, none⟩ = some (.string (rdS (stK s 1)).1.f1) := l11
            have mw200 : World.cell? wr ⟨ad.block, ad.off + 4, none⟩ = some (.bool (rdS (stK s 2)).1.f0) := l20
            have mw210 : World.cell? wr ⟨ad.block, ad.off + 4 + 1, none⟩ = some (.string (rdS (stK s 2)).1.f1) := l21
            have mw211 : World.cell? wr ⟨ad.block, ad.off + 5, none⟩ = some (.string (rdS (stK s 2)).1.f1) := l21
            have mm : World.cell? wr.drew ad = some (.bool (rdS (stK s 0)).1.f0) := l00
            have mw : World.cell? wr ad = some (.bool (rdS (stK s 0)).1.f0) := l00
            obtain ⟨f0, f1, f2, f3, f4, f5, f6⟩ := cla_cells HS.out.bC
            have g1 := blk_frozen HS.out.bC 1
            have g2 := blk_frozen HS.out.bC 2
            have g3 := blk_frozen HS.out.bC 3
            have g4 := blk_frozen HS.out.bC 4
            have g5 := blk_frozen HS.out.bC 5
            have g6 := blk_frozen HS.out.bC 6
            clear l00 l01 l10 l11 l20 l21 e1 e2
            go_wp2
            go_region
            clear f0 f1 f2 f3 f4 f5 f6 c0 c1 c2 c3 c4 c5 c6
            have HS4 := Aside0.mk (HS3.out.below (below_drew (Below.refl _ _)))
            generalize ((((((wr.setCell ⟨C, 1, none⟩ (.bool (rdS (stK s 0)).1.f0)).setCell ⟨C, 2, none⟩ (.string (rdS (stK s 0)).1.f1)).setCell ⟨C, 3, none⟩ (.bool (rdS (stK s 1)).1.f0)).setCell ⟨C, 4, none⟩ (.string (rdS (stK s 1)).1.f1)).setCell ⟨C, 5, none⟩ (.bool (rdS (stK s 2)).1.f0)).setCell ⟨C, 6, none⟩ (.string (rdS (stK s 2)).1.f1)).drew = X at HS4 ⊢
            have HS5 : Aside0 (ClSt 54 W W.heap.size C X (rdCl s).2 (rdCl s).1 u6 xs) := HS4
            obtain ⟨c0, c1, c2, c3, c4, c5, c6⟩ := cla_cells HS5.out.bC
            go_wp2_with (at_builtin; refine Kd.R_append k74 (w0 := W) W.heap.size rfl (.tmp 58) (.tmp 60) 27 74 (.agg #[.string ⟨#[]⟩, .bool false, .string ⟨#[]⟩, .bool false, .string ⟨#[]⟩, .bool false, .string ⟨#[]⟩]) 88 rfl Try.underlying27 (by kernel_rfl) rfl (by decide) (by omega) u6 xs (rdCl s).1 [.string (rdCl s).1.f0, .bool (rdCl s).1.f1.f0, .string (rdCl s).1.f1.f1, .bool (rdCl s).1.f2.f0, .string (rdCl s).1.f2.f1, .bool (rdCl s).1.f3.f0, .string (rdCl s).1.f3.f1] (fun _ => True) (fun _ => False) rfl rfl ?aP (fun _ hk => hk.elim) ?aF ?aO ?aB ?aS ?aL ?_; (case aP => exact k74_mkM _ _ _ _); (case aF => exact fun _ _ => trivial); (case aO => exact Kd.R_mono HS5.out.hR (fun _ _ => trivial)); (case aB => exact HS5.out.bel); (case aS => exact HS5.out.bel.size); (case aL => have := HJ.out; have := HNN.out; omega); intro v9 w9 ho hb hgr hat; have HO9 := Aside0.mk ho; have HB9 := Aside0.mk hb; have HRd9 := Aside0.mk (HS5.out.rd.fr (show Fr W.heap.size [74] X w9 by obtain ⟨inner, h⟩ := Kd.R_own HS5.out.hR; exact Fr.of_grown h (Nat.le_refl _) hgr (by simp)) (by decide)); clear ho hb hgr hat)
            go_roundg j
            case measure => have := HJ.out; omega
            case rel => exact ⟨i + 1, j, (rdCl s).2, xs ++ [(rdCl s).1], by rw [HWI.out], ⟨rfl, by have := HJ.out; omega, by have := HJ.out; simp; omega⟩, ⟨cls_snoc _ _ _ _ _ HE.out⟩, ⟨HRd9.out⟩, ⟨HO9.out⟩, ⟨HB9.out⟩⟩
end Go.Proofs.Ytabfjjcbceibpaa.Sep
namespace Go.Proofs.Ytabfjjcbceibpaa.Sep
set_option linter.unusedSimpArgs false
set_option linter.unusedVariables false
open Go.RowKit Go.Proofs.Ytabfjjcbceibpaa.PCore Go.Proofs.Ytabfjjcbceibpaa.Plain Go.Proofs.YtabfjjcbceibpaaW.PrintWords Go.Proofs.YtabfjjcbceibpaaW.PrintLast Go.Proofs.YtabfjjcbceibpaaW.PrintMore
open Go.Proofs.Ytabfjjcbceibpaa.PDat (S46 k46 z46 rd_T46 at_T46 S48 k48 z48 rd_T48 at_T48 apographref14_Name.f apographref14_Name.l0 apographref14_Name.calls apographref14_Made.f apographref14_Made.l0 apographref14_Made.calls)
theorem bt_rd (s : ByteArray) (i : Nat) (h : i < s.size) : bt s (i : Int) = rd (bytesOf s) (i : Int) := (rd_bytesOf s _).symm
theorem rname_loop (s : ByteArray) (hs : s.size ≤ 9223372036854775807) : ∀ (d i : Nat), i + d = s.size → Ev (fun k => apographref14_Name.l0 k s i) (nameL (i == 0) ((bytesOf s).drop i) && (decide (1 ≤ s.size) && decide (s.size ≤ 20))) := by
  intro d
  induction d with
  | zero =>
    intro i hi
    rw [List.drop_eq_nil_of_le (by rw [bytesOf_length]; omega)]
    by_cases h1 : 1 ≤ s.size
    · refine Ev.step (f := fun _ => some (decide ((s.size : Int) ≤ 20))) (fun k => ?_) ?_
      · simp only [apographref14_Name.l0]
        rw [if_neg (by omega), if_pos (by omega)]
      · have e : (nameL (i == 0) [] && (decide (1 ≤ s.size) && decide (s.size ≤ 20))) = decide ((s.size : Int) ≤ 20) := by
          rw [decide_eq_true h1, nameL, Bool.true_and, Bool.true_and]
          exact decide_eq_decide.2 ⟨fun h => by omega, fun h => by omega⟩
        rw [e]
        exact Ev.now _
    · have e : (nameL (i == 0) [] && (decide (1 ≤ s.size) && decide (s.size ≤ 20))) = false := by
        rw [decide_eq_false h1, nameL]; rfl
      rw [e]
      refine Ev.step (f := fun _ => some false) (fun k => ?_) (Ev.now _)
      simp only [apographref14_Name.l0]
      rw [if_neg (by omega), if_neg (by omega)]
  | succ d ih =>
    intro i hi
    have ew : wrap64 ((i : Int) + 1) = ((i + 1 : Nat) : Int) := by unfold wrap64; omega
    have hx := bt_rd s i (by omega)
    have h := ih (i + 1) (by omega)
    rw [bytes_drop s i (by omega)]
    generalize rd (bytesOf s) (i : Int) = c at hx
    have e0 : (i + 1 == 0) = false := rfl
    rw [e0] at h
    cases hb : (letB c || (!(i == 0) && othB c)) with
    | true =>
      rw [nameL_step hb]
      refine Ev.step (fun k => ?_) h
      simp only [apographref14_Name.l0, hx, ew]
      rw [if_pos (by omega), if_pos (by omega)]
      simp only [letB, othB, Bool.or_eq_true, Bool.and_eq_true, decide_eq_true_eq, beq_iff_eq, Bool.not_eq_true', beq_eq_false_iff_ne] at hb
      repeat' split
      all_goals first | rfl | (exfalso; omega)
    | false =>
      rw [nameL_bad hb, Bool.false_and]
      refine Ev.step (f := fun _ => some false) (fun k => ?_) (Ev.now _)
      simp only [apographref14_Name.l0, hx, ew]
      rw [if_pos (by omega), if_pos (by omega)]
      simp only [letB, othB, Bool.or_eq_false_iff, Bool.and_eq_false_iff, decide_eq_false_iff_not, beq_eq_false_iff_ne, Bool.not_eq_false', beq_iff_eq] at hb
      repeat' split
      all_goals first | rfl | (exfalso; omega)
theorem refName_calls (s : ByteArray) (hs : s.size ≤ 9223372036854775807) (w : World) : Calls Try.prog 53 #[.string s] w fun e w' => e = .returned (.bool (nameB s)) ∧ Below w.heap.size w w' := by
  obtain ⟨k, hk⟩ := Ev.rounds (rname_loop s hs s.size 0 (by omega))
  have e : (nameL ((0 : Nat) == 0) ((bytesOf s).drop 0) && (decide (1 ≤ s.size) && decide (s.size ≤ 20))) = nameB s := by
    unfold nameB
    rw [List.drop_zero, show ((0 : Nat) == 0) = true from rfl]
    cases nameL true (bytesOf s) <;> cases decide (1 ≤ s.size) <;> cases decide (s.size ≤ 20) <;> rfl
  rw [e] at hk
  exact (apographref14_Name.calls k s _ w hk).mono fun e w' ⟨h1, h2⟩ => ⟨h1, by first | exact h2 | exact h2.below⟩
theorem rmade_loop (id : Int) : ∀ (d : Nat) (l : List Made) (i : Nat), i + d = l.length → l.length ≤ 9223372036854775807 → ∃ c, Ev (fun k => apographref14_Made.l0 k id l l.length i) (c, findB (l.drop i) id) := by
  intro d
  induction d with
  | zero =>
    intro l i hi hn
    refine ⟨0, ?_⟩
    rw [List.drop_eq_nil_of_le (by omega)]
    refine Ev.step (f := fun _ => some (0, false)) (fun k => ?_) (Ev.now _)
    simp only [apographref14_Made.l0]
    rw [if_neg (by omega)]
  | succ d ih =>
    intro l i hi hn
    have ew : wrap64 ((i : Int) + 1) = ((i + 1 : Nat) : Int) := by unfold wrap64; omega
    have hx := made_at (l := l) i (by omega)
    rw [List.drop_eq_getElem_cons (show i < l.length by omega)]
    generalize l[i] = x at hx
    by_cases c : x.f0 = id
    · refine ⟨x.f1, ?_⟩
      have e : findB (x :: l.drop (i + 1)) id = true := by simp [findB, c]
      rw [e]
      refine Ev.step (f := fun _ => some (x.f1, true)) (fun k => ?_) (Ev.now _)
      simp only [apographref14_Made.l0, hx]
      rw [if_pos (by omega), if_pos (by omega), if_pos (by omega), if_pos c]
    · obtain ⟨r, hr⟩ := ih l (i + 1) (by omega) hn
      refine ⟨r, ?_⟩
      have e : findB (x :: l.drop (i + 1)) id = findB (l.drop (i + 1)) id := by simp [findB, c]
      rw [e]
      refine Ev.step (f := fun k => apographref14_Made.l0 k id l l.length ((i + 1 : Nat) : Int)) (fun k => ?_) hr
      simp only [apographref14_Made.l0, hx, ew]
      rw [if_pos (by omega), if_pos (by omega), if_pos (by omega), if_neg c]
theorem rmade_calls {s : St} {A : Option Addr} {n : Nat} {B : Option Addr} {m : Nat} {C : Option Addr} {o : Nat} (id : Int) (w : World) (h : StC w s A n B m C o) :
    Calls Try.prog 52 #[stV s A n B m C o, .int .u64 id] w fun e w' => ∃ c, e = .returned (.tuple #[.int .u64 c, .bool (findB s.made id)]) ∧ Below w.heap.size w w' := by
  obtain ⟨c, hc⟩ := rmade_loop id s.made.length s.made 0 (by omega) (Kd.C_max h.hm)
  obtain ⟨k, hk⟩ := Ev.rounds hc
  exact (apographref14_Made.calls k s.head s.work s.next s.pend A n s.refs B m s.made C o s.cls id c _ w h.hr h.hrn h.hm h.hmn h.hc h.hcn hk).mono fun e w' ⟨h1, h2⟩ => ⟨c, h1, h2⟩
theorem stateE_refs {s : St} (h : refsL s.made s.head none false s.refs = false) : stateE s = 150 := stateE_bad (.inr (.inl (by unfold refsB; rw [h, Bool.and_false])))
theorem stateE_made {s : St} (h : madeL s.next none s.made = false) : stateE s = 150 := stateE_bad (.inr (.inr (.inl (by unfold madeB; rw [h, Bool.and_false]))))
set_option maxHeartbeats 64000000 in
set_option maxRecDepth 100000 in
theorem refState_calls {s : St} {A : Option Addr} {n : Nat} {B : Option Addr} {m : Nat} {C : Option Addr} {o : Nat} (W : World) (h : StC W s A n B m C o) (hsz : ∀ r ∈ s.refs, r.f0.size ≤ 9223372036854775807) :
    Calls Try.prog 25 #[.agg #[.string s.head, .int .u64 s.work, .int .u64 s.next, .int .u64 s.pend, .slice A s.refs.length n, .slice B s.made.length m, .slice C s.cls.length o]] W fun e W1 => e = .returned (.int .i64 (stateE s)) ∧ Below W.heap.size W W1 := by
  have HS := Aside0.mk h
  have HSZ := Aside0.mk hsz
  have HMX := Aside0.mk (Kd.C_max h.hr)
  have HMM := Aside0.mk (Kd.C_max h.hm)
  have HCX := Aside0.mk (Kd.C_max h.hc)
  have huS := Try.underlying29
  have huR := Try.underlying46
  have huM := Try.underlying48
  clear h hsz
  go_enter Try.func25, Try.ntmps25
  go_wp2
  have hk0 := blk_new W (.cells #[.string s.head, .int .u64 s.work, .int .u64 s.next, .int .u64 s.pend, .slice A s.refs.length n, .slice B s.made.length m, .slice C s.cls.length o] 29)
  have HB0 := Aside0.mk (below_alloc (Below.refl W.heap.size W) (.cells #[.string s.head, .int .u64 s.work, .int .u64 s.next, .int .u64 s.pend, .slice A s.refs.length n, .slice B s.made.length m, .slice C s.cls.length o] 29))
  generalize W.alloc (.cells #[.string s.head, .int .u64 s.work, .int .u64 s.next, .int .u64 s.pend, .slice A s.refs.length n, .slice B s.made.length m, .slice C s.cls.length o] 29) = w0 at hk0 HB0 ⊢
  generalize W.heap.size = g at hk0 ⊢
  have HK0 := Aside0.mk hk0
  clear hk0
  go_loopg [3, 15] s.refs.length (fun kq v3 v15 w' => ∃ (i : Nat) (hd : Bool), v3 = .bool hd ∧ v15 = .int .i64 i ∧ Aside0 (i ≤ s.refs.length ∧ kq = s.refs.length - i) ∧ Aside0 (refsL s.made s.head none false s.refs = refsL s.made s.head (prevR s.refs i) hd (s.refs.drop i)) ∧ Aside0 (Below w0.heap.size w0 w'))
  case atStart => exact ⟨0, false, rfl, rfl, ⟨by omega, by omega⟩, ⟨rfl⟩, ⟨Below.refl _ _⟩⟩
  case round =>
    obtain ⟨i, hd, rfl, rfl, HI, HE, HB⟩ := hrel
    by_cases hlt : i < s.refs.length
    · have hcc := (HS.out.below (below_step HB0.out HB.out)).hr
      obtain ⟨ad, hA, h0, h1, h2⟩ := at_T46 hcc (i : Int) (by omega) (by omega)
      subst hA
      simp only [Int.toNat_natCast] at h0 h1 h2
      have hE := HE.out
      rw [ref_drop s.refs i hlt] at hE
      have HPS := Aside0.mk (prevR_succ s.refs i)
      have hsz0 : (rd_T46 s.refs (i : Int)).f0.size ≤ 9223372036854775807 := by
        rw [ref_at i hlt]
        exact HSZ.out _ (List.getElem_mem hlt)
      generalize rd_T46 s.refs (i : Int) = x at h0 h1 h2 hE HPS hsz0
      obtain ⟨f0, f1, f2⟩ := x
      simp only at h0 h1 h2 HPS hsz0
      have HE2 := Aside0.mk hE
      clear hE HE
      have hlt' : (i : Int) < (s.refs.length : Int) := by omega
      have HWI := Aside0.mk (show wrap64 ((i : Int) + 1) = ((i + 1 : Nat) : Int) by have := HMX.out; unfold wrap64; omega)
      have hks := (Fr.of_below (B := 0) (T := []) HB.out).blk HK0.out (by simp)
      have HKS := Aside0.mk hks
      have HNC := Aside0.mk (fun w => refName_calls f0 hsz0 w)
      clear hsz0
      obtain ⟨s0, s1, s2, s3, s4, s5, s6⟩ := st_cells hks
      clear hks
      cases hfb : findB s.made f2 with
      | true =>
        have HFB := Aside0.mk hfb
        clear hfb
        go_upto_region 5 with (fail)
        have hxn := blk_new wr (.cells #[.string f0, .bool f1, .int .u64 f2] 46)
        have hsn := blk_alloc HKS.out (.cells #[.string f0, .bool f1, .int .u64 f2] 46)
        have HBn := Aside0.mk (below_alloc HB.out (.cells #[.string f0, .bool f1, .int .u64 f2] 46))
        generalize wr.alloc (.cells #[.string f0, .bool f1, .int .u64 f2] 46) = wv at hxn hsn HBn ⊢
        generalize wr.heap.size = gx at hxn ⊢
        have HXN := Aside0.mk hxn
        have HSN := Aside0.mk hsn
        obtain ⟨x0, x1, x2⟩ := tri_cells hxn
        clear s0 s1 s2 s3 s4 s5 s6 hcc h0 h1 h2
        obtain ⟨s0, s1, s2, s3, s4, s5, s6⟩ := st_cells hsn
        clear hxn hsn
        go_upto_region 6 with (go_at_call 52; refine (rmade_calls f2 _ (HS.out.below (below_step HB0.out HBn.out))).mono ?_; rw [HFB.out]; rintro e w5 ⟨cc, rfl, hb⟩; have HB5 := Aside0.mk (below_step HBn.out hb); have HX5 := Aside0.mk ((Fr.of_below (B := 0) (T := []) hb).blk HXN.out (by simp)); have HS5 := Aside0.mk ((Fr.of_below (B := 0) (T := []) hb).blk HSN.out (by simp)); clear hb)
        have hprev : ∀ j : Nat, i = j + 1 → w5.cell? (ad.add (j * 3)) = some (.string (rd_T46 s.refs (j : Int)).f0) := fun j hj => by
          obtain ⟨ad', e', k0, _⟩ := at_T46 ((HS.out.below (below_step HB0.out HB5.out)).hr) (j : Int) (by omega) (by omega)
          have e'' : ad = ad' := by injection e'
          rw [← e''] at k0
          simpa only [Int.toNat_natCast] using k0
        have HPR := Aside0.mk hprev
        clear x0 x1 x2 s0 s1 s2 s3 s4 s5 s6
        obtain ⟨x0, x1, x2⟩ := tri_cells HX5.out
        obtain ⟨s0, s1, s2, s3, s4, s5, s6⟩ := st_cells HS5.out
        have x0r := Reach.cell x0
        have x1r := Reach.cell x1
        have x2r := Reach.cell x2
        have s4r := Reach.cell s4
        clear hprev x0 x1 x2 s0 s1 s2 s3 s4 s5 s6
        cases hn : nameB f0 with
        | false =>
          have HG := Aside0.mk (stateE_refs (by rw [HE2.out, refsL_name hn]))
          rw [hn] at HNC
          clear hn
          refine region_reach (by kernel_rfl) (by kernel_rfl) ?_
          repeat (go_big_quiet_step ((go_at_call 53; exact calls_reach _ (HNC.out _))))
          refine wpQuiet_nil ?_
          rintro _ ⟨⟨w4, hb4⟩, rfl⟩
          have HB4 := Aside0.mk (below_step HB5.out hb4)
          have hx4 := (Fr.of_below (B := 0) (T := []) hb4).blk HX5.out (by simp)
          have hs4 := (Fr.of_below (B := 0) (T := []) hb4).blk HS5.out (by simp)
          obtain ⟨x0, x1, x2⟩ := tri_cells hx4
          obtain ⟨s0, s1, s2, s3, s4, s5, s6⟩ := st_cells hs4
          clear hb4 hx4 hs4
          go_wp2
          go_ret
          rw [HG.out]
          exact ⟨rfl, below_step HB0.out HB4.out⟩
        | true =>
          have HNM := Aside0.mk hn
          rw [hn] at HNC
          clear hn
          by_cases hi : i = 0
          · have hi' : decide ((0 : Int) < (i : Int)) = false := decide_eq_false (by omega)
            have hiN : decide (0 < i) = false := decide_eq_false (by omega)
            have HST := Aside0.mk (show (findB s.made f2 || (!f1 && f2 == 0)) = true → refsL s.made s.head none false s.refs = refsL s.made s.head (some f0) (hd || (f0.toList == s.head.toList && !f1)) (s.refs.drop (i + 1)) from fun hf => by rw [HE2.out, prevR, if_pos hi, refsL_none HNM.out hf])
            clear hi HPR
            cases f1 with
            | true =>
              have HG := Aside0.mk (HST.out (by rw [HFB.out]; rfl))
              cases hd with
              | true =>
                refine region_reach (by kernel_rfl) (by kernel_rfl) ?_
                repeat (go_big_quiet_step ((go_at_call 53; exact calls_reach _ (HNC.out _))))
                refine wpQuiet_nil ?_
                rintro _ ⟨⟨w4, hb4⟩, rfl⟩
                have HB4 := Aside0.mk (below_step HB5.out hb4)
                have hx4 := (Fr.of_below (B := 0) (T := []) hb4).blk HX5.out (by simp)
                have hs4 := (Fr.of_below (B := 0) (T := []) hb4).blk HS5.out (by simp)
                obtain ⟨x0, x1, x2⟩ := tri_cells hx4
                obtain ⟨s0, s1, s2, s3, s4, s5, s6⟩ := st_cells hs4
                clear hb4 hx4 hs4
                go_wp2
                go_roundg (s.refs.length - (i + 1))
                case measure => have := HI.out; omega
                case rel => exact ⟨i + 1, _, rfl, by rw [HWI.out], ⟨by omega, rfl⟩, ⟨by rw [HPS.out]; exact HG.out⟩, ⟨HB4.out⟩⟩
              | false =>
                cases heq : (f0.toList == s.head.toList) with
                | true =>
                  rw [heq] at HG
                  refine region_reach (by kernel_rfl) (by kernel_rfl) ?_
                  repeat (go_big_quiet_step ((go_at_call 53; exact calls_reach _ (HNC.out _))))
                  refine wpQuiet_nil ?_
                  rintro _ ⟨⟨w4, hb4⟩, rfl⟩
                  have HB4 := Aside0.mk (below_step HB5.out hb4)
                  have hx4 := (Fr.of_below (B := 0) (T := []) hb4).blk HX5.out (by simp)
                  have hs4 := (Fr.of_below (B := 0) (T := []) hb4).blk HS5.out (by simp)
                  obtain ⟨x0, x1, x2⟩ := tri_cells hx4
                  obtain ⟨s0, s1, s2, s3, s4, s5, s6⟩ := st_cells hs4
                  clear hb4 hx4 hs4
                  go_wp2
                  go_roundg (s.refs.length - (i + 1))
                  case measure => have := HI.out; omega
                  case rel => exact ⟨i + 1, _, rfl, by rw [HWI.out], ⟨by omega, rfl⟩, ⟨by rw [HPS.out]; exact HG.out⟩, ⟨HB4.out⟩⟩
                | false =>
                  rw [heq] at HG
                  refine region_reach (by kernel_rfl) (by kernel_rfl) ?_
                  repeat (go_big_quiet_step ((go_at_call 53; exact calls_reach _ (HNC.out _))))
                  refine wpQuiet_nil ?_
                  rintro _ ⟨⟨w4, hb4⟩, rfl⟩
                  have HB4 := Aside0.mk (below_step HB5.out hb4)
                  have hx4 := (Fr.of_below (B := 0) (T := []) hb4).blk HX5.out (by simp)
                  have hs4 := (Fr.of_below (B := 0) (T := []) hb4).blk HS5.out (by simp)
                  obtain ⟨x0, x1, x2⟩ := tri_cells hx4
                  obtain ⟨s0, s1, s2, s3, s4, s5, s6⟩ := st_cells hs4
                  clear hb4 hx4 hs4
                  go_wp2
                  go_roundg (s.refs.length - (i + 1))
                  case measure => have := HI.out; omega
                  case rel => exact ⟨i + 1, _, rfl, by rw [HWI.out], ⟨by omega, rfl⟩, ⟨by rw [HPS.out]; exact HG.out⟩, ⟨HB4.out⟩⟩
            | false =>
              have HG := Aside0.mk (HST.out (by rw [HFB.out]; rfl))
              cases hd with
              | true =>
                refine region_reach (by kernel_rfl) (by kernel_rfl) ?_
                repeat (go_big_quiet_step ((go_at_call 53; exact calls_reach _ (HNC.out _))))
                refine wpQuiet_nil ?_
                rintro _ ⟨⟨w4, hb4⟩, rfl⟩
                have HB4 := Aside0.mk (below_step HB5.out hb4)
                have hx4 := (Fr.of_below (B := 0) (T := []) hb4).blk HX5.out (by simp)
                have hs4 := (Fr.of_below (B := 0) (T := []) hb4).blk HS5.out (by simp)
                obtain ⟨x0, x1, x2⟩ := tri_cells hx4
                obtain ⟨s0, s1, s2, s3, s4, s5, s6⟩ := st_cells hs4
                clear hb4 hx4 hs4
                go_wp2
                go_roundg (s.refs.length - (i + 1))
                case measure => have := HI.out; omega
                case rel => exact ⟨i + 1, _, rfl, by rw [HWI.out], ⟨by omega, rfl⟩, ⟨by rw [HPS.out]; exact HG.out⟩, ⟨HB4.out⟩⟩
              | false =>
                cases heq : (f0.toList == s.head.toList) with
                | true =>
                  rw [heq] at HG
                  refine region_reach (by kernel_rfl) (by kernel_rfl) ?_
                  repeat (go_big_quiet_step ((go_at_call 53; exact calls_reach _ (HNC.out _))))
                  refine wpQuiet_nil ?_
                  rintro _ ⟨⟨w4, hb4⟩, rfl⟩
                  have HB4 := Aside0.mk (below_step HB5.out hb4)
                  have hx4 := (Fr.of_below (B := 0) (T := []) hb4).blk HX5.out (by simp)
                  have hs4 := (Fr.of_below (B := 0) (T := []) hb4).blk HS5.out (by simp)
                  obtain ⟨x0, x1, x2⟩ := tri_cells hx4
                  obtain ⟨s0, s1, s2, s3, s4, s5, s6⟩ := st_cells hs4
                  clear hb4 hx4 hs4
                  go_wp2
                  go_roundg (s.refs.length - (i + 1))
                  case measure => have := HI.out; omega
                  case rel => exact ⟨i + 1, _, rfl, by rw [HWI.out], ⟨by omega, rfl⟩, ⟨by rw [HPS.out]; exact HG.out⟩, ⟨HB4.out⟩⟩
                | false =>
                  rw [heq] at HG
                  refine region_reach (by kernel_rfl) (by kernel_rfl) ?_
                  repeat (go_big_quiet_step ((go_at_call 53; exact calls_reach _ (HNC.out _))))
                  refine wpQuiet_nil ?_
                  rintro _ ⟨⟨w4, hb4⟩, rfl⟩
                  have HB4 := Aside0.mk (below_step HB5.out hb4)
                  have hx4 := (Fr.of_below (B := 0) (T := []) hb4).blk HX5.out (by simp)
                  have hs4 := (Fr.of_below (B := 0) (T := []) hb4).blk HS5.out (by simp)
                  obtain ⟨x0, x1, x2⟩ := tri_cells hx4
                  obtain ⟨s0, s1, s2, s3, s4, s5, s6⟩ := st_cells hs4
                  clear hb4 hx4 hs4
                  go_wp2
                  go_roundg (s.refs.length - (i + 1))
                  case measure => have := HI.out; omega
                  case rel => exact ⟨i + 1, _, rfl, by rw [HWI.out], ⟨by omega, rfl⟩, ⟨by rw [HPS.out]; exact HG.out⟩, ⟨HB4.out⟩⟩
          · obtain ⟨j, hj⟩ : ∃ j : Nat, i = j + 1 := ⟨i - 1, by omega⟩
            have hi' : decide ((0 : Int) < (i : Int)) = true := decide_eq_true (by omega)
            have hiN : decide (0 < i) = true := decide_eq_true (by omega)
            have hwj : wrap64 ((i : Int) - 1) = (j : Int) := by have := HMX.out; unfold wrap64; omega
            have hwj2 : IntKind.i64.wrap ((i : Int) - 1) = (j : Int) := by first | exact hwj | (rw [i64_w]; exact hwj)
            have hjl : (j : Int) < (s.refs.length : Int) := by omega
            have hk0 := HPR.out j hj
            have HPV := Aside0.mk (show prevR s.refs i = some (rd_T46 s.refs (j : Int)).f0 by rw [hj, prevR_succ])
            generalize (rd_T46 s.refs (j : Int)).f0 = q at hk0 HPV
            have k0r := Reach.cell hk0
            clear hk0 HPR
            cases hless : lessK q f0 with
            | true =>
              have HST := Aside0.mk (show (findB s.made f2 || (!f1 && f2 == 0)) = true → refsL s.made s.head none false s.refs = refsL s.made s.head (some f0) (hd || (f0.toList == s.head.toList && !f1)) (s.refs.drop (i + 1)) from fun hf => by rw [HE2.out, HPV.out, refsL_some HNM.out hless hf])
              have hl' : Op.bytesLess q.toList f0.toList = true := hless
              have hge : ∀ w, (binOp .geq 9 (.string q) (.string f0)).run Try.prog w = .ok (.bool false) w := fun w => by rw [str_geq, hl']; rfl
              clear hi hj hless
              cases f1 with
              | true =>
                have HG := Aside0.mk (HST.out (by rw [HFB.out]; rfl))
                cases hd with
                | true =>
                  refine region_reach (by kernel_rfl) (by kernel_rfl) ?_
                  repeat (go_big_quiet_step ((go_at_call 53; exact calls_reach _ (HNC.out _))))
                  refine wpQuiet_nil ?_
                  rintro _ ⟨⟨w4, hb4⟩, rfl⟩
                  have HB4 := Aside0.mk (below_step HB5.out hb4)
                  have hx4 := (Fr.of_below (B := 0) (T := []) hb4).blk HX5.out (by simp)
                  have hs4 := (Fr.of_below (B := 0) (T := []) hb4).blk HS5.out (by simp)
                  obtain ⟨x0, x1, x2⟩ := tri_cells hx4
                  obtain ⟨s0, s1, s2, s3, s4, s5, s6⟩ := st_cells hs4
                  clear hb4 hx4 hs4
                  go_wp2
                  go_roundg (s.refs.length - (i + 1))
                  case measure => have := HI.out; omega
                  case rel => exact ⟨i + 1, _, rfl, by rw [HWI.out], ⟨by omega, rfl⟩, ⟨by rw [HPS.out]; exact HG.out⟩, ⟨HB4.out⟩⟩
                | false =>
                  cases heq : (f0.toList == s.head.toList) with
                  | true =>
                    rw [heq] at HG
                    refine region_reach (by kernel_rfl) (by kernel_rfl) ?_
                    repeat (go_big_quiet_step ((go_at_call 53; exact calls_reach _ (HNC.out _))))
                    refine wpQuiet_nil ?_
                    rintro _ ⟨⟨w4, hb4⟩, rfl⟩
                    have HB4 := Aside0.mk (below_step HB5.out hb4)
                    have hx4 := (Fr.of_below (B := 0) (T := []) hb4).blk HX5.out (by simp)
                    have hs4 := (Fr.of_below (B := 0) (T := []) hb4).blk HS5.out (by simp)
                    obtain ⟨x0, x1, x2⟩ := tri_cells hx4
                    obtain ⟨s0, s1, s2, s3, s4, s5, s6⟩ := st_cells hs4
                    clear hb4 hx4 hs4
                    go_wp2
                    go_roundg (s.refs.length - (i + 1))
                    case measure => have := HI.out; omega
                    case rel => exact ⟨i + 1, _, rfl, by rw [HWI.out], ⟨by omega, rfl⟩, ⟨by rw [HPS.out]; exact HG.out⟩, ⟨HB4.out⟩⟩
                  | false =>
                    rw [heq] at HG
                    refine region_reach (by kernel_rfl) (by kernel_rfl) ?_
                    repeat (go_big_quiet_step ((go_at_call 53; exact calls_reach _ (HNC.out _))))
                    refine wpQuiet_nil ?_
                    rintro _ ⟨⟨w4, hb4⟩, rfl⟩
                    have HB4 := Aside0.mk (below_step HB5.out hb4)
                    have hx4 := (Fr.of_below (B := 0) (T := []) hb4).blk HX5.out (by simp)
                    have hs4 := (Fr.of_below (B := 0) (T := []) hb4).blk HS5.out (by simp)
                    obtain ⟨x0, x1, x2⟩ := tri_cells hx4
                    obtain ⟨s0, s1, s2, s3, s4, s5, s6⟩ := st_cells hs4
                    clear hb4 hx4 hs4
                    go_wp2
                    go_roundg (s.refs.length - (i + 1))
                    case measure => have := HI.out; omega
                    case rel => exact ⟨i + 1, _, rfl, by rw [HWI.out], ⟨by omega, rfl⟩, ⟨by rw [HPS.out]; exact HG.out⟩, ⟨HB4.out⟩⟩
              | false =>
                have HG := Aside0.mk (HST.out (by rw [HFB.out]; rfl))
                cases hd with
                | true =>
                  refine region_reach (by kernel_rfl) (by kernel_rfl) ?_
                  repeat (go_big_quiet_step ((go_at_call 53; exact calls_reach _ (HNC.out _))))
                  refine wpQuiet_nil ?_
                  rintro _ ⟨⟨w4, hb4⟩, rfl⟩
                  have HB4 := Aside0.mk (below_step HB5.out hb4)
                  have hx4 := (Fr.of_below (B := 0) (T := []) hb4).blk HX5.out (by simp)
                  have hs4 := (Fr.of_below (B := 0) (T := []) hb4).blk HS5.out (by simp)
                  obtain ⟨x0, x1, x2⟩ := tri_cells hx4
                  obtain ⟨s0, s1, s2, s3, s4, s5, s6⟩ := st_cells hs4
                  clear hb4 hx4 hs4
                  go_wp2
                  go_roundg (s.refs.length - (i + 1))
                  case measure => have := HI.out; omega
                  case rel => exact ⟨i + 1, _, rfl, by rw [HWI.out], ⟨by omega, rfl⟩, ⟨by rw [HPS.out]; exact HG.out⟩, ⟨HB4.out⟩⟩
                | false =>
                  cases heq : (f0.toList == s.head.toList) with
                  | true =>
                    rw [heq] at HG
                    refine region_reach (by kernel_rfl) (by kernel_rfl) ?_
                    repeat (go_big_quiet_step ((go_at_call 53; exact calls_reach _ (HNC.out _))))
                    refine wpQuiet_nil ?_
                    rintro _ ⟨⟨w4, hb4⟩, rfl⟩
                    have HB4 := Aside0.mk (below_step HB5.out hb4)
                    have hx4 := (Fr.of_below (B := 0) (T := []) hb4).blk HX5.out (by simp)
                    have hs4 := (Fr.of_below (B := 0) (T := []) hb4).blk HS5.out (by simp)
                    obtain ⟨x0, x1, x2⟩ := tri_cells hx4
                    obtain ⟨s0, s1, s2, s3, s4, s5, s6⟩ := st_cells hs4
                    clear hb4 hx4 hs4
                    go_wp2
                    go_roundg (s.refs.length - (i + 1))
                    case measure => have := HI.out; omega
                    case rel => exact ⟨i + 1, _, rfl, by rw [HWI.out], ⟨by omega, rfl⟩, ⟨by rw [HPS.out]; exact HG.out⟩, ⟨HB4.out⟩⟩
                  | false =>
                    rw [heq] at HG
                    refine region_reach (by kernel_rfl) (by kernel_rfl) ?_
                    repeat (go_big_quiet_step ((go_at_call 53; exact calls_reach _ (HNC.out _))))
                    refine wpQuiet_nil ?_
                    rintro _ ⟨⟨w4, hb4⟩, rfl⟩
                    have HB4 := Aside0.mk (below_step HB5.out hb4)
                    have hx4 := (Fr.of_below (B := 0) (T := []) hb4).blk HX5.out (by simp)
                    have hs4 := (Fr.of_below (B := 0) (T := []) hb4).blk HS5.out (by simp)
                    obtain ⟨x0, x1, x2⟩ := tri_cells hx4
                    obtain ⟨s0, s1, s2, s3, s4, s5, s6⟩ := st_cells hs4
                    clear hb4 hx4 hs4
                    go_wp2
                    go_roundg (s.refs.length - (i + 1))
                    case measure => have := HI.out; omega
                    case rel => exact ⟨i + 1, _, rfl, by rw [HWI.out], ⟨by omega, rfl⟩, ⟨by rw [HPS.out]; exact HG.out⟩, ⟨HB4.out⟩⟩
            | false =>
              have HG := Aside0.mk (stateE_refs (by rw [HE2.out, HPV.out, refsL_prev hless]))
              have hl' : Op.bytesLess q.toList f0.toList = false := hless
              have hge : ∀ w, (binOp .geq 9 (.string q) (.string f0)).run Try.prog w = .ok (.bool true) w := fun w => by rw [str_geq, hl']; rfl
              clear hi hj hless
              refine region_reach (by kernel_rfl) (by kernel_rfl) ?_
              repeat (go_big_quiet_step ((go_at_call 53; exact calls_reach _ (HNC.out _))))
              refine wpQuiet_nil ?_
              rintro _ ⟨⟨w4, hb4⟩, rfl⟩
              have HB4 := Aside0.mk (below_step HB5.out hb4)
              have hx4 := (Fr.of_below (B := 0) (T := []) hb4).blk HX5.out (by simp)
              have hs4 := (Fr.of_below (B := 0) (T := []) hb4).blk HS5.out (by simp)
              obtain ⟨x0, x1, x2⟩ := tri_cells hx4
              obtain ⟨s0, s1, s2, s3, s4, s5, s6⟩ := st_cells hs4
              clear hb4 hx4 hs4
              go_wp2
              go_ret
              rw [HG.out]
              exact ⟨rfl, below_step HB0.out HB4.out⟩
      | false =>
        have HFB := Aside0.mk hfb
        clear hfb
        go_upto_region 5 with (fail)
        have hxn := blk_new wr (.cells #[.string f0, .bool f1, .int .u64 f2] 46)
        have hsn := blk_alloc HKS.out (.cells #[.string f0, .bool f1, .int .u64 f2] 46)
        have HBn := Aside0.mk (below_alloc HB.out (.cells #[.string f0, .bool f1, .int .u64 f2] 46))
        generalize wr.alloc (.cells #[.string f0, .bool f1, .int .u64 f2] 46) = wv at hxn hsn HBn ⊢
        generalize wr.heap.size = gx at hxn ⊢
        have HXN := Aside0.mk hxn
        have HSN := Aside0.mk hsn
        obtain ⟨x0, x1, x2⟩ := tri_cells hxn
        clear s0 s1 s2 s3 s4 s5 s6 hcc h0 h1 h2
        obtain ⟨s0, s1, s2, s3, s4, s5, s6⟩ := st_cells hsn
        clear hxn hsn
        go_upto_region 6 with (go_at_call 52; refine (rmade_calls f2 _ (HS.out.below (below_step HB0.out HBn.out))).mono ?_; rw [HFB.out]; rintro e w5 ⟨cc, rfl, hb⟩; have HB5 := Aside0.mk (below_step HBn.out hb); have HX5 := Aside0.mk ((Fr.of_below (B := 0) (T := []) hb).blk HXN.out (by simp)); have HS5 := Aside0.mk ((Fr.of_below (B := 0) (T := []) hb).blk HSN.out (by simp)); clear hb)
        have hprev : ∀ j : Nat, i = j + 1 → w5.cell? (ad.add (j * 3)) = some (.string (rd_T46 s.refs (j : Int)).f0) := fun j hj => by
          obtain ⟨ad', e', k0, _⟩ := at_T46 ((HS.out.below (below_step HB0.out HB5.out)).hr) (j : Int) (by omega) (by omega)
          have e'' : ad = ad' := by injection e'
          rw [← e''] at k0
          simpa only [Int.toNat_natCast] using k0
        have HPR := Aside0.mk hprev
        clear x0 x1 x2 s0 s1 s2 s3 s4 s5 s6
        obtain ⟨x0, x1, x2⟩ := tri_cells HX5.out
        obtain ⟨s0, s1, s2, s3, s4, s5, s6⟩ := st_cells HS5.out
        have x0r := Reach.cell x0
        have x1r := Reach.cell x1
        have x2r := Reach.cell x2
        have s4r := Reach.cell s4
        clear hprev x0 x1 x2 s0 s1 s2 s3 s4 s5 s6
        cases hn : nameB f0 with
        | false =>
          have HG := Aside0.mk (stateE_refs (by rw [HE2.out, refsL_name hn]))
          rw [hn] at HNC
          clear hn
          refine region_reach (by kernel_rfl) (by kernel_rfl) ?_
          repeat (go_big_quiet_step ((go_at_call 53; exact calls_reach _ (HNC.out _))))
          refine wpQuiet_nil ?_
          rintro _ ⟨⟨w4, hb4⟩, rfl⟩
          have HB4 := Aside0.mk (below_step HB5.out hb4)
          have hx4 := (Fr.of_below (B := 0) (T := []) hb4).blk HX5.out (by simp)
          have hs4 := (Fr.of_below (B := 0) (T := []) hb4).blk HS5.out (by simp)
          obtain ⟨x0, x1, x2⟩ := tri_cells hx4
          obtain ⟨s0, s1, s2, s3, s4, s5, s6⟩ := st_cells hs4
          clear hb4 hx4 hs4
          go_wp2
          go_ret
          rw [HG.out]
          exact ⟨rfl, below_step HB0.out HB4.out⟩
        | true =>
          have HNM := Aside0.mk hn
          rw [hn] at HNC
          clear hn
          by_cases hi : i = 0
          · have hi' : decide ((0 : Int) < (i : Int)) = false := decide_eq_false (by omega)
            have hiN : decide (0 < i) = false := decide_eq_false (by omega)
            have HST := Aside0.mk (show (findB s.made f2 || (!f1 && f2 == 0)) = true → refsL s.made s.head none false s.refs = refsL s.made s.head (some f0) (hd || (f0.toList == s.head.toList && !f1)) (s.refs.drop (i + 1)) from fun hf => by rw [HE2.out, prevR, if_pos hi, refsL_none HNM.out hf])
            clear hi HPR
            cases f1 with
            | true =>
              have HG := Aside0.mk (stateE_refs (by rw [HE2.out, refsL_found (by rw [HFB.out]; rfl)]))
              refine region_reach (by kernel_rfl) (by kernel_rfl) ?_
              repeat (go_big_quiet_step ((go_at_call 53; exact calls_reach _ (HNC.out _))))
              refine wpQuiet_nil ?_
              rintro _ ⟨⟨w4, hb4⟩, rfl⟩
              have HB4 := Aside0.mk (below_step HB5.out hb4)
              have hx4 := (Fr.of_below (B := 0) (T := []) hb4).blk HX5.out (by simp)
              have hs4 := (Fr.of_below (B := 0) (T := []) hb4).blk HS5.out (by simp)
              obtain ⟨x0, x1, x2⟩ := tri_cells hx4
              obtain ⟨s0, s1, s2, s3, s4, s5, s6⟩ := st_cells hs4
              clear hb4 hx4 hs4
              go_wp2
              go_ret
              rw [HG.out]
              exact ⟨rfl, below_step HB0.out HB4.out⟩
            | false =>
              by_cases hz : f2 = 0
              · have hz1 : (f2 == 0) = true := beq_iff_eq.mpr hz
                have hz2 : (f2 != 0) = false := by simp [bne, hz1]
                have HG := Aside0.mk (HST.out (by rw [HFB.out, hz1]; rfl))
                clear hz hz1
                cases hd with
                | true =>
                  refine region_reach (by kernel_rfl) (by kernel_rfl) ?_
                  repeat (go_big_quiet_step ((go_at_call 53; exact calls_reach _ (HNC.out _))))
                  refine wpQuiet_nil ?_
                  rintro _ ⟨⟨w4, hb4⟩, rfl⟩
                  have HB4 := Aside0.mk (below_step HB5.out hb4)
                  have hx4 := (Fr.of_below (B := 0) (T := []) hb4).blk HX5.out (by simp)
                  have hs4 := (Fr.of_below (B := 0) (T := []) hb4).blk HS5.out (by simp)
                  obtain ⟨x0, x1, x2⟩ := tri_cells hx4
                  obtain ⟨s0, s1, s2, s3, s4, s5, s6⟩ := st_cells hs4
                  clear hb4 hx4 hs4
                  go_wp2
                  go_roundg (s.refs.length - (i + 1))
                  case measure => have := HI.out; omega
                  case rel => exact ⟨i + 1, _, rfl, by rw [HWI.out], ⟨by omega, rfl⟩, ⟨by rw [HPS.out]; exact HG.out⟩, ⟨HB4.out⟩⟩
                | false =>
                  cases heq : (f0.toList == s.head.toList) with
                  | true =>
                    rw [heq] at HG
                    refine region_reach (by kernel_rfl) (by kernel_rfl) ?_
                    repeat (go_big_quiet_step ((go_at_call 53; exact calls_reach _ (HNC.out _))))
                    refine wpQuiet_nil ?_
                    rintro _ ⟨⟨w4, hb4⟩, rfl⟩
                    have HB4 := Aside0.mk (below_step HB5.out hb4)
                    have hx4 := (Fr.of_below (B := 0) (T := []) hb4).blk HX5.out (by simp)
                    have hs4 := (Fr.of_below (B := 0) (T := []) hb4).blk HS5.out (by simp)
                    obtain ⟨x0, x1, x2⟩ := tri_cells hx4
                    obtain ⟨s0, s1, s2, s3, s4, s5, s6⟩ := st_cells hs4
                    clear hb4 hx4 hs4
                    go_wp2
                    go_roundg (s.refs.length - (i + 1))
                    case measure => have := HI.out; omega
                    case rel => exact ⟨i + 1, _, rfl, by rw [HWI.out], ⟨by omega, rfl⟩, ⟨by rw [HPS.out]; exact HG.out⟩, ⟨HB4.out⟩⟩
                  | false =>
                    rw [heq] at HG
                    refine region_reach (by kernel_rfl) (by kernel_rfl) ?_
                    repeat (go_big_quiet_step ((go_at_call 53; exact calls_reach _ (HNC.out _))))
                    refine wpQuiet_nil ?_
                    rintro _ ⟨⟨w4, hb4⟩, rfl⟩
                    have HB4 := Aside0.mk (below_step HB5.out hb4)
                    have hx4 := (Fr.of_below (B := 0) (T := []) hb4).blk HX5.out (by simp)
                    have hs4 := (Fr.of_below (B := 0) (T := []) hb4).blk HS5.out (by simp)
                    obtain ⟨x0, x1, x2⟩ := tri_cells hx4
                    obtain ⟨s0, s1, s2, s3, s4, s5, s6⟩ := st_cells hs4
                    clear hb4 hx4 hs4
                    go_wp2
                    go_roundg (s.refs.length - (i + 1))
                    case measure => have := HI.out; omega
                    case rel => exact ⟨i + 1, _, rfl, by rw [HWI.out], ⟨by omega, rfl⟩, ⟨by rw [HPS.out]; exact HG.out⟩, ⟨HB4.out⟩⟩
              · have hz1 : (f2 == 0) = false := beq_eq_false_iff_ne.mpr hz
                have hz2 : (f2 != 0) = true := bne_iff_ne.mpr hz
                have HG := Aside0.mk (stateE_refs (by rw [HE2.out, refsL_found (by rw [HFB.out]; simp [hz1])]))
                clear hz hz1
                refine region_reach (by kernel_rfl) (by kernel_rfl) ?_
                repeat (go_big_quiet_step ((go_at_call 53; exact calls_reach _ (HNC.out _))))
                refine wpQuiet_nil ?_
                rintro _ ⟨⟨w4, hb4⟩, rfl⟩
                have HB4 := Aside0.mk (below_step HB5.out hb4)
                have hx4 := (Fr.of_below (B := 0) (T := []) hb4).blk HX5.out (by simp)
                have hs4 := (Fr.of_below (B := 0) (T := []) hb4).blk HS5.out (by simp)
                obtain ⟨x0, x1, x2⟩ := tri_cells hx4
                obtain ⟨s0, s1, s2, s3, s4, s5, s6⟩ := st_cells hs4
                clear hb4 hx4 hs4
                go_wp2
                go_ret
                rw [HG.out]
                exact ⟨rfl, below_step HB0.out HB4.out⟩
          · obtain ⟨j, hj⟩ : ∃ j : Nat, i = j + 1 := ⟨i - 1, by omega⟩
            have hi' : decide ((0 : Int) < (i : Int)) = true := decide_eq_true (by omega)
            have hiN : decide (0 < i) = true := decide_eq_true (by omega)
            have hwj : wrap64 ((i : Int) - 1) = (j : Int) := by have := HMX.out; unfold wrap64; omega
            have hwj2 : IntKind.i64.wrap ((i : Int) - 1) = (j : Int) := by first | exact hwj | (rw [i64_w]; exact hwj)
            have hjl : (j : Int) < (s.refs.length : Int) := by omega
            have hk0 := HPR.out j hj
            have HPV := Aside0.mk (show prevR s.refs i = some (rd_T46 s.refs (j : Int)).f0 by rw [hj, prevR_succ])
            generalize (rd_T46 s.refs (j : Int)).f0 = q at hk0 HPV
            have k0r := Reach.cell hk0
            clear hk0 HPR
            cases hless : lessK q f0 with
            | true =>
              have HST := Aside0.mk (show (findB s.made f2 || (!f1 && f2 == 0)) = true → refsL s.made s.head none false s.refs = refsL s.made s.head (some f0) (hd || (f0.toList == s.head.toList && !f1)) (s.refs.drop (i + 1)) from fun hf => by rw [HE2.out, HPV.out, refsL_some HNM.out hless hf])
              have hl' : Op.bytesLess q.toList f0.toList = true := hless
              have hge : ∀ w, (binOp .geq 9 (.string q) (.string f0)).run Try.prog w = .ok (.bool false) w := fun w => by rw [str_geq, hl']; rfl
              clear hi hj hless
              cases f1 with
              | true =>
                have HG := Aside0.mk (stateE_refs (by rw [HE2.out, refsL_found (by rw [HFB.out]; rfl)]))
                refine region_reach (by kernel_rfl) (by kernel_rfl) ?_
                repeat (go_big_quiet_step ((go_at_call 53; exact calls_reach _ (HNC.out _))))
                refine wpQuiet_nil ?_
                rintro _ ⟨⟨w4, hb4⟩, rfl⟩
                have HB4 := Aside0.mk (below_step HB5.out hb4)
                have hx4 := (Fr.of_below (B := 0) (T := []) hb4).blk HX5.out (by simp)
                have hs4 := (Fr.of_below (B := 0) (T := []) hb4).blk HS5.out (by simp)
                obtain ⟨x0, x1, x2⟩ := tri_cells hx4
                obtain ⟨s0, s1, s2, s3, s4, s5, s6⟩ := st_cells hs4
                clear hb4 hx4 hs4
                go_wp2
                go_ret
                rw [HG.out]
                exact ⟨rfl, below_step HB0.out HB4.out⟩
              | false =>
                by_cases hz : f2 = 0
                · have hz1 : (f2 == 0) = true := beq_iff_eq.mpr hz
                  have hz2 : (f2 != 0) = false := by simp [bne, hz1]
                  have HG := Aside0.mk (HST.out (by rw [HFB.out, hz1]; rfl))
                  clear hz hz1
                  cases hd with
                  | true =>
                    refine region_reach (by kernel_rfl) (by kernel_rfl) ?_
                    repeat (go_big_quiet_step ((go_at_call 53; exact calls_reach _ (HNC.out _))))
                    refine wpQuiet_nil ?_
                    rintro _ ⟨⟨w4, hb4⟩, rfl⟩
                    have HB4 := Aside0.mk (below_step HB5.out hb4)
                    have hx4 := (Fr.of_below (B := 0) (T := []) hb4).blk HX5.out (by simp)
                    have hs4 := (Fr.of_below (B := 0) (T := []) hb4).blk HS5.out (by simp)
                    obtain ⟨x0, x1, x2⟩ := tri_cells hx4
                    obtain ⟨s0, s1, s2, s3, s4, s5, s6⟩ := st_cells hs4
                    clear hb4 hx4 hs4
                    go_wp2
                    go_roundg (s.refs.length - (i + 1))
                    case measure => have := HI.out; omega
                    case rel => exact ⟨i + 1, _, rfl, by rw [HWI.out], ⟨by omega, rfl⟩, ⟨by rw [HPS.out]; exact HG.out⟩, ⟨HB4.out⟩⟩
                  | false =>
                    cases heq : (f0.toList == s.head.toList) with
                    | true =>
                      rw [heq] at HG
                      refine region_reach (by kernel_rfl) (by kernel_rfl) ?_
                      repeat (go_big_quiet_step ((go_at_call 53; exact calls_reach _ (HNC.out _))))
                      refine wpQuiet_nil ?_
                      rintro _ ⟨⟨w4, hb4⟩, rfl⟩
                      have HB4 := Aside0.mk (below_step HB5.out hb4)
                      have hx4 := (Fr.of_below (B := 0) (T := []) hb4).blk HX5.out (by simp)
                      have hs4 := (Fr.of_below (B := 0) (T := []) hb4).blk HS5.out (by simp)
                      obtain ⟨x0, x1, x2⟩ := tri_cells hx4
                      obtain ⟨s0, s1, s2, s3, s4, s5, s6⟩ := st_cells hs4
                      clear hb4 hx4 hs4
                      go_wp2
                      go_roundg (s.refs.length - (i + 1))
                      case measure => have := HI.out; omega
                      case rel => exact ⟨i + 1, _, rfl, by rw [HWI.out], ⟨by omega, rfl⟩, ⟨by rw [HPS.out]; exact HG.out⟩, ⟨HB4.out⟩⟩
                    | false =>
                      rw [heq] at HG
                      refine region_reach (by kernel_rfl) (by kernel_rfl) ?_
                      repeat (go_big_quiet_step ((go_at_call 53; exact calls_reach _ (HNC.out _))))
                      refine wpQuiet_nil ?_
                      rintro _ ⟨⟨w4, hb4⟩, rfl⟩
                      have HB4 := Aside0.mk (below_step HB5.out hb4)
                      have hx4 := (Fr.of_below (B := 0) (T := []) hb4).blk HX5.out (by simp)
                      have hs4 := (Fr.of_below (B := 0) (T := []) hb4).blk HS5.out (by simp)
                      obtain ⟨x0, x1, x2⟩ := tri_cells hx4
                      obtain ⟨s0, s1, s2, s3, s4, s5, s6⟩ := st_cells hs4
                      clear hb4 hx4 hs4
                      go_wp2
                      go_roundg (s.refs.length - (i + 1))
                      case measure => have := HI.out; omega
                      case rel => exact ⟨i + 1, _, rfl, by rw [HWI.out], ⟨by omega, rfl⟩, ⟨by rw [HPS.out]; exact HG.out⟩, ⟨HB4.out⟩⟩
                · have hz1 : (f2 == 0) = false := beq_eq_false_iff_ne.mpr hz
                  have hz2 : (f2 != 0) = true := bne_iff_ne.mpr hz
                  have HG := Aside0.mk (stateE_refs (by rw [HE2.out, refsL_found (by rw [HFB.out]; simp [hz1])]))
                  clear hz hz1
                  refine region_reach (by kernel_rfl) (by kernel_rfl) ?_
                  repeat (go_big_quiet_step ((go_at_call 53; exact calls_reach _ (HNC.out _))))
                  refine wpQuiet_nil ?_
                  rintro _ ⟨⟨w4, hb4⟩, rfl⟩
                  have HB4 := Aside0.mk (below_step HB5.out hb4)
                  have hx4 := (Fr.of_below (B := 0) (T := []) hb4).blk HX5.out (by simp)
                  have hs4 := (Fr.of_below (B := 0) (T := []) hb4).blk HS5.out (by simp)
                  obtain ⟨x0, x1, x2⟩ := tri_cells hx4
                  obtain ⟨s0, s1, s2, s3, s4, s5, s6⟩ := st_cells hs4
                  clear hb4 hx4 hs4
                  go_wp2
                  go_ret
                  rw [HG.out]
                  exact ⟨rfl, below_step HB0.out HB4.out⟩
            | false =>
              have HG := Aside0.mk (stateE_refs (by rw [HE2.out, HPV.out, refsL_prev hless]))
              have hl' : Op.bytesLess q.toList f0.toList = false := hless
              have hge : ∀ w, (binOp .geq 9 (.string q) (.string f0)).run Try.prog w = .ok (.bool true) w := fun w => by rw [str_geq, hl']; rfl
              clear hi hj hless
              refine region_reach (by kernel_rfl) (by kernel_rfl) ?_
              repeat (go_big_quiet_step ((go_at_call 53; exact calls_reach _ (HNC.out _))))
              refine wpQuiet_nil ?_
              rintro _ ⟨⟨w4, hb4⟩, rfl⟩
              have HB4 := Aside0.mk (below_step HB5.out hb4)
              have hx4 := (Fr.of_below (B := 0) (T := []) hb4).blk HX5.out (by simp)
              have hs4 := (Fr.of_below (B := 0) (T := []) hb4).blk HS5.out (by simp)
              obtain ⟨x0, x1, x2⟩ := tri_cells hx4
              obtain ⟨s0, s1, s2, s3, s4, s5, s6⟩ := st_cells hs4
              clear hb4 hx4 hs4
              go_wp2
              go_ret
              rw [HG.out]
              exact ⟨rfl, below_step HB0.out HB4.out⟩
    · have hI : i = s.refs.length := by have := HI.out; omega
      subst hI
      have HRF := Aside0.mk (show refsL s.made s.head none false s.refs = hd by rw [HE.out, List.drop_length]; cases prevR s.refs s.refs.length <;> rfl)
      have hks := (Fr.of_below (B := 0) (T := []) HB.out).blk HK0.out (by simp)
      obtain ⟨s0, s1, s2, s3, s4, s5, s6⟩ := st_cells hks
      have HB1 := Aside0.mk (below_step HB0.out HB.out)
      go_wp2
      have HK1 := Aside0.mk hks
      clear HB HE HI hks s0 s1 s2 s3 s4 s5 s6
      generalize wr = w1 at HK1 HB1 ⊢
      go_loopg [77] s.made.length (fun kq v77 w' => ∃ (i : Nat), v77 = .int .i64 i ∧ Aside0 (i ≤ s.made.length ∧ kq = s.made.length - i) ∧ Aside0 (madeL s.next none s.made = madeL s.next (prevM s.made i) (s.made.drop i)) ∧ Aside0 (Below w1.heap.size w1 w'))
      case atStart => exact ⟨0, rfl, ⟨by omega, by omega⟩, ⟨rfl⟩, ⟨Below.refl _ _⟩⟩
      case round =>
        obtain ⟨i, rfl, HI, HE, HB⟩ := hrel
        have hks := (Fr.of_below (B := 0) (T := []) HB.out).blk HK1.out (by simp)
        by_cases hlt : i < s.made.length
        · have hcc := (HS.out.below (below_step HB1.out HB.out)).hm
          obtain ⟨ad, hA, h0, h1⟩ := at_T48 hcc (i : Int) (by omega) (by omega)
          subst hA
          simp only [Int.toNat_natCast] at h0 h1
          have hE := HE.out
          rw [made_drop s.made i hlt] at hE
          have HPS := Aside0.mk (prevM_succ s.made i)
          generalize rd_T48 s.made (i : Int) = x at h0 h1 hE HPS
          obtain ⟨f0, f1⟩ := x
          simp only at h0 h1 HPS
          have HE2 := Aside0.mk hE
          clear hE HE
          have hlt' : (i : Int) < (s.made.length : Int) := by omega
          have HWI := Aside0.mk (show wrap64 ((i : Int) + 1) = ((i + 1 : Nat) : Int) by have := HMM.out; unfold wrap64; omega)
          go_wp2
          have hxn := blk_new wr (.cells #[.int .u64 f0, .int .u64 f1] 48)
          have hsn := blk_alloc hks (.cells #[.int .u64 f0, .int .u64 f1] 48)
          have HBn := Aside0.mk (below_alloc HB.out (.cells #[.int .u64 f0, .int .u64 f1] 48))
          have hprev : ∀ j : Nat, i = j + 1 → (wr.alloc (.cells #[.int .u64 f0, .int .u64 f1] 48)).cell? (ad.add (j * 2)) = some (.int .u64 (rd_T48 s.made (j : Int)).f0) := fun j hj => by
            obtain ⟨ad', e', k0, _⟩ := at_T48 (Kd.C_alloc hcc (.cells #[.int .u64 f0, .int .u64 f1] 48)) (j : Int) (by omega) (by omega)
            have e'' : ad = ad' := by injection e'
            rw [← e''] at k0
            simpa only [Int.toNat_natCast] using k0
          generalize wr.alloc (.cells #[.int .u64 f0, .int .u64 f1] 48) = wv at hxn hsn HBn hprev ⊢
          generalize wr.heap.size = gx at hxn ⊢
          have x0 : World.cell? wv ⟨gx, 0, none⟩ = some (.int .u64 f0) := (blk_cell hxn 0).trans rfl
          have x1 : World.cell? wv ⟨gx, 1, none⟩ = some (.int .u64 f1) := (blk_cell hxn 1).trans rfl
          obtain ⟨s0, s1, s2, s3, s4, s5, s6⟩ := st_cells hsn
          have x0r := Reach.cell x0
          have x1r := Reach.cell x1
          have s2r := Reach.cell s2
          have s5r := Reach.cell s5
          have HPR := Aside0.mk hprev
          clear hprev hxn hsn x0 x1 s0 s1 s2 s3 s4 s5 s6 h0 h1 hks
          by_cases c1 : f0 = 0
          · have d1 : (f0 == 0) = true := beq_iff_eq.mpr c1
            have HG := Aside0.mk (stateE_made (by rw [HE2.out, madeL_bad (.inl c1)]))
            clear c1
            refine region_reach (by kernel_rfl) (by kernel_rfl) ?_
            repeat (go_big_quiet_step (fail))
            refine wpQuiet_nil ?_
            rintro _ ⟨⟨w4, hb4⟩, rfl⟩
            have HB4 := Aside0.mk (below_step HBn.out hb4)
            clear hb4
            go_wp2
            go_ret
            rw [HG.out]
            exact ⟨rfl, below_step HB1.out HB4.out⟩
          · have d1 : (f0 == 0) = false := beq_eq_false_iff_ne.mpr c1
            by_cases c2 : s.next ≤ f0
            · have d2 : decide (s.next ≤ f0) = true := decide_eq_true c2
              have HG := Aside0.mk (stateE_made (by rw [HE2.out, madeL_bad (.inr (.inl c2))]))
              clear c1 c2
              refine region_reach (by kernel_rfl) (by kernel_rfl) ?_
              repeat (go_big_quiet_step (fail))
              refine wpQuiet_nil ?_
              rintro _ ⟨⟨w4, hb4⟩, rfl⟩
              have HB4 := Aside0.mk (below_step HBn.out hb4)
              clear hb4
              go_wp2
              go_ret
              rw [HG.out]
              exact ⟨rfl, below_step HB1.out HB4.out⟩
            · have d2 : decide (s.next ≤ f0) = false := decide_eq_false c2
              by_cases c3 : f1 = 0
              · have d3 : (f1 == 0) = true := beq_iff_eq.mpr c3
                have HG := Aside0.mk (stateE_made (by rw [HE2.out, madeL_bad (.inr (.inr (.inl c3)))]))
                clear c1 c2 c3
                refine region_reach (by kernel_rfl) (by kernel_rfl) ?_
                repeat (go_big_quiet_step (fail))
                refine wpQuiet_nil ?_
                rintro _ ⟨⟨w4, hb4⟩, rfl⟩
                have HB4 := Aside0.mk (below_step HBn.out hb4)
                clear hb4
                go_wp2
                go_ret
                rw [HG.out]
                exact ⟨rfl, below_step HB1.out HB4.out⟩
              · have d3 : (f1 == 0) = false := beq_eq_false_iff_ne.mpr c3
                by_cases hi : i = 0
                · have hi' : decide ((0 : Int) < (i : Int)) = false := decide_eq_false (by omega)
                  have hiN : decide (0 < i) = false := decide_eq_false (by omega)
                  have HG := Aside0.mk (show madeL s.next none s.made = madeL s.next (some f0) (s.made.drop (i + 1)) by rw [HE2.out, madeL_step c1 (show f0 < s.next by omega) c3 (fun q hq => by rw [hi] at hq; cases hq)])
                  clear c1 c2 c3 hi
                  refine region_reach (by kernel_rfl) (by kernel_rfl) ?_
                  repeat (go_big_quiet_step (fail))
                  refine wpQuiet_nil ?_
                  rintro _ ⟨⟨w4, hb4⟩, rfl⟩
                  have HB4 := Aside0.mk (below_step HBn.out hb4)
                  clear hb4
                  go_wp2
                  go_roundg (s.made.length - (i + 1))
                  case measure => have := HI.out; omega
                  case rel => exact ⟨i + 1, by rw [HWI.out], ⟨by omega, rfl⟩, ⟨by rw [HPS.out]; exact HG.out⟩, ⟨HB4.out⟩⟩
                · obtain ⟨j, hj⟩ : ∃ j : Nat, i = j + 1 := ⟨i - 1, by omega⟩
                  have hi' : decide ((0 : Int) < (i : Int)) = true := decide_eq_true (by omega)
                  have hiN : decide (0 < i) = true := decide_eq_true (by omega)
                  have hwj : wrap64 ((i : Int) - 1) = (j : Int) := by have := HMM.out; unfold wrap64; omega
                  have hwj2 : IntKind.i64.wrap ((i : Int) - 1) = (j : Int) := by first | exact hwj | (rw [i64_w]; exact hwj)
                  have hjl : (j : Int) < (s.made.length : Int) := by omega
                  have hk0 := HPR.out j hj
                  have HPV := Aside0.mk (show prevM s.made i = some (rd_T48 s.made (j : Int)).f0 by rw [hj, prevM_succ])
                  generalize (rd_T48 s.made (j : Int)).f0 = q at hk0 HPV
                  have k0r := Reach.cell hk0
                  by_cases c4 : f0 ≤ q
                  · have d4 : decide (f0 ≤ q) = true := decide_eq_true c4
                    have HG := Aside0.mk (stateE_made (by rw [HE2.out, madeL_bad (.inr (.inr (.inr ⟨q, HPV.out, c4⟩)))]))
                    clear c1 c2 c3 c4 hi hj hk0
                    refine region_reach (by kernel_rfl) (by kernel_rfl) ?_
                    repeat (go_big_quiet_step (fail))
                    refine wpQuiet_nil ?_
                    rintro _ ⟨⟨w4, hb4⟩, rfl⟩
                    have HB4 := Aside0.mk (below_step HBn.out hb4)
                    clear hb4
                    go_wp2
                    go_ret
                    rw [HG.out]
                    exact ⟨rfl, below_step HB1.out HB4.out⟩
                  · have d4 : decide (f0 ≤ q) = false := decide_eq_false c4
                    have HG := Aside0.mk (show madeL s.next none s.made = madeL s.next (some f0) (s.made.drop (i + 1)) by rw [HE2.out, madeL_step c1 (show f0 < s.next by omega) c3 (fun q' hq => by rw [HPV.out] at hq; have e : q = q' := Option.some.inj hq; rw [← e]; show q < f0; omega)])
                    clear c1 c2 c3 c4 hi hj hk0
                    refine region_reach (by kernel_rfl) (by kernel_rfl) ?_
                    repeat (go_big_quiet_step (fail))
                    refine wpQuiet_nil ?_
                    rintro _ ⟨⟨w4, hb4⟩, rfl⟩
                    have HB4 := Aside0.mk (below_step HBn.out hb4)
                    clear hb4
                    go_wp2
                    go_roundg (s.made.length - (i + 1))
                    case measure => have := HI.out; omega
                    case rel => exact ⟨i + 1, by rw [HWI.out], ⟨by omega, rfl⟩, ⟨by rw [HPS.out]; exact HG.out⟩, ⟨HB4.out⟩⟩
        · have hI : i = s.made.length := by have := HI.out; omega
          subst hI
          have HMD := Aside0.mk (show madeL s.next none s.made = true by rw [HE.out, List.drop_length]; cases prevM s.made s.made.length <;> rfl)
          obtain ⟨s0, s1, s2, s3, s4, s5, s6⟩ := st_cells hks
          have HKS := Aside0.mk hks
          have HB2 := Aside0.mk (below_step HB1.out HB.out)
          clear HB HE HI hks
          generalize wr = w2 at HKS HB2 s0 s1 s2 s3 s4 s5 s6 ⊢
          obtain ⟨fb, hfb⟩ : ∃ fb, findB s.made s.pend = fb := ⟨_, rfl⟩
          have HFB := Aside0.mk hfb
          cases hd with
          | false =>
            have HG := Aside0.mk (stateE_refs HRF.out)
            go_wp2_with (go_at_call 52; refine (rmade_calls s.pend _ (HS.out.below HB2.out)).mono ?_; rw [HFB.out]; rintro e w5 ⟨cc, rfl, hb⟩; have HB5 := Aside0.mk (below_step HB2.out hb); have hk5 := (Fr.of_below (B := 0) (T := []) hb).blk HKS.out (by simp); obtain ⟨t0, t1, t2, t3, t4, t5, t6⟩ := st_cells hk5; clear hb hk5)
            go_ret
            rw [HG.out]
            exact ⟨rfl, HB5.out⟩
          | true =>
            by_cases n0 : s.next = 0
            · have d1 : (s.next == 0) = true := beq_iff_eq.mpr n0
              have HG := Aside0.mk (stateE_bad (s := s) (.inl d1))
              clear n0
              go_wp2_with (go_at_call 52; refine (rmade_calls s.pend _ (HS.out.below HB2.out)).mono ?_; rw [HFB.out]; rintro e w5 ⟨cc, rfl, hb⟩; have HB5 := Aside0.mk (below_step HB2.out hb); have hk5 := (Fr.of_below (B := 0) (T := []) hb).blk HKS.out (by simp); obtain ⟨t0, t1, t2, t3, t4, t5, t6⟩ := st_cells hk5; clear hb hk5)
              go_ret
              rw [HG.out]
              exact ⟨rfl, HB5.out⟩
            · have d1 : (s.next == 0) = false := beq_eq_false_iff_ne.mpr n0
              by_cases n1 : (40 : Int) < (s.refs.length : Int)
              · have d2 : decide ((40 : Int) < (s.refs.length : Int)) = true := decide_eq_true n1
                have HG := Aside0.mk (show stateE s = 150 from stateE_bad (.inr (.inl (by unfold refsB; rw [decide_eq_false (show ¬ s.refs.length ≤ 40 by omega)]; rfl))))
                clear n0 n1
                go_wp2_with (go_at_call 52; refine (rmade_calls s.pend _ (HS.out.below HB2.out)).mono ?_; rw [HFB.out]; rintro e w5 ⟨cc, rfl, hb⟩; have HB5 := Aside0.mk (below_step HB2.out hb); have hk5 := (Fr.of_below (B := 0) (T := []) hb).blk HKS.out (by simp); obtain ⟨t0, t1, t2, t3, t4, t5, t6⟩ := st_cells hk5; clear hb hk5)
                go_ret
                rw [HG.out]
                exact ⟨rfl, HB5.out⟩
              · have d2 : decide ((40 : Int) < (s.refs.length : Int)) = false := decide_eq_false n1
                have HRB := Aside0.mk (show refsB s = true by unfold refsB; rw [decide_eq_true (show s.refs.length ≤ 40 by omega), HRF.out]; rfl)
                by_cases n2 : (200 : Int) < (s.made.length : Int)
                · have d3 : decide ((200 : Int) < (s.made.length : Int)) = true := decide_eq_true n2
                  have HG := Aside0.mk (show stateE s = 150 from stateE_bad (.inr (.inr (.inl (by unfold madeB; rw [decide_eq_false (show ¬ s.made.length ≤ 200 by omega)]; rfl)))))
                  clear n0 n1 n2
                  go_wp2_with (go_at_call 52; refine (rmade_calls s.pend _ (HS.out.below HB2.out)).mono ?_; rw [HFB.out]; rintro e w5 ⟨cc, rfl, hb⟩; have HB5 := Aside0.mk (below_step HB2.out hb); have hk5 := (Fr.of_below (B := 0) (T := []) hb).blk HKS.out (by simp); obtain ⟨t0, t1, t2, t3, t4, t5, t6⟩ := st_cells hk5; clear hb hk5)
                  go_ret
                  rw [HG.out]
                  exact ⟨rfl, HB5.out⟩
                · have d3 : decide ((200 : Int) < (s.made.length : Int)) = false := decide_eq_false n2
                  have HMB := Aside0.mk (show madeB s = true by unfold madeB; rw [decide_eq_true (show s.made.length ≤ 200 by omega), HMD.out]; rfl)
                  by_cases n3 : s.pend = 0
                  · have d4 : (s.pend == 0) = true := beq_iff_eq.mpr n3
                    have d5 : (s.pend != 0) = false := by simp [bne, d4]
                    by_cases n4 : (0 : Int) < (s.cls.length : Int)
                    · have d6 : decide ((0 : Int) < (s.cls.length : Int)) = true := decide_eq_true n4
                      have d7 : decide (0 < s.cls.length) = true := decide_eq_true (by omega)
                      have HG := Aside0.mk (show stateE s = 150 from stateE_bad (.inr (.inr (.inr (.inl (by unfold pendB; rw [d4, show (s.cls.length == 0) = false from beq_eq_false_iff_ne.mpr (by omega)]; rfl))))))
                      clear n0 n1 n2 n3 n4
                      go_wp2_with (go_at_call 52; refine (rmade_calls s.pend _ (HS.out.below HB2.out)).mono ?_; rw [HFB.out]; rintro e w5 ⟨cc, rfl, hb⟩; have HB5 := Aside0.mk (below_step HB2.out hb); have hk5 := (Fr.of_below (B := 0) (T := []) hb).blk HKS.out (by simp); obtain ⟨t0, t1, t2, t3, t4, t5, t6⟩ := st_cells hk5; clear hb hk5)
                      go_ret
                      rw [HG.out]
                      exact ⟨rfl, HB5.out⟩
                    · have d6 : decide ((0 : Int) < (s.cls.length : Int)) = false := decide_eq_false n4
                      have d7 : decide (0 < s.cls.length) = false := decide_eq_false (by omega)
                      have d8 : (s.cls.length == 0) = true := beq_iff_eq.mpr (by omega)
                      clear n0 n1 n2 n3 n4
                      have HPD := Aside0.mk (show pendB s = true by unfold pendB; rw [d4, d8]; rfl)
                      cases hcf : (confE s.cls == 0) with
                      | false =>
                        have HG := Aside0.mk (stateE_bad (.inr (.inr (.inr (.inr hcf)))))
                        have hcf2 : (confE s.cls != 0) = true := by simp [bne, hcf]
                        go_wp2_with (first | (go_at_call 51; refine (refClashes_calls C o s.cls _ (HS.out.below HB5.out).hc HCX.out).mono ?_; rintro e w6 ⟨rfl, hb⟩; have HB6 := Aside0.mk (below_step HB5.out hb); clear hb) | (go_at_call 52; refine (rmade_calls s.pend _ (HS.out.below HB2.out)).mono ?_; rw [HFB.out]; rintro e w5 ⟨cc, rfl, hb⟩; have HB5 := Aside0.mk (below_step HB2.out hb); have hk5 := (Fr.of_below (B := 0) (T := []) hb).blk HKS.out (by simp); obtain ⟨t0, t1, t2, t3, t4, t5, t6⟩ := st_cells hk5; clear hb hk5))
                        go_ret
                        rw [HG.out]
                        exact ⟨rfl, HB6.out⟩
                      | true =>
                        have HG := Aside0.mk (stateE_ok d1 HRB.out HMB.out HPD.out hcf)
                        have hcf2 : (confE s.cls != 0) = false := by simp [bne, hcf]
                        go_wp2_with (first | (go_at_call 51; refine (refClashes_calls C o s.cls _ (HS.out.below HB5.out).hc HCX.out).mono ?_; rintro e w6 ⟨rfl, hb⟩; have HB6 := Aside0.mk (below_step HB5.out hb); clear hb) | (go_at_call 52; refine (rmade_calls s.pend _ (HS.out.below HB2.out)).mono ?_; rw [HFB.out]; rintro e w5 ⟨cc, rfl, hb⟩; have HB5 := Aside0.mk (below_step HB2.out hb); have hk5 := (Fr.of_below (B := 0) (T := []) hb).blk HKS.out (by simp); obtain ⟨t0, t1, t2, t3, t4, t5, t6⟩ := st_cells hk5; clear hb hk5))
                        go_ret
                        rw [HG.out]
                        exact ⟨rfl, HB6.out⟩
                  · have d4 : (s.pend == 0) = false := beq_eq_false_iff_ne.mpr n3
                    have d5 : (s.pend != 0) = true := by simp [bne, d4]
                    cases fb with
                    | false =>
                      have HG := Aside0.mk (show stateE s = 150 from stateE_bad (.inr (.inr (.inr (.inl (by unfold pendB; rw [d4, hfb]; rfl))))))
                      clear n0 n1 n2 n3 hfb
                      go_wp2_with (go_at_call 52; refine (rmade_calls s.pend _ (HS.out.below HB2.out)).mono ?_; rw [HFB.out]; rintro e w5 ⟨cc, rfl, hb⟩; have HB5 := Aside0.mk (below_step HB2.out hb); have hk5 := (Fr.of_below (B := 0) (T := []) hb).blk HKS.out (by simp); obtain ⟨t0, t1, t2, t3, t4, t5, t6⟩ := st_cells hk5; clear hb hk5)
                      go_ret
                      rw [HG.out]
                      exact ⟨rfl, HB5.out⟩
                    | true =>
                      clear n0 n1 n2 n3
                      have HPD := Aside0.mk (show pendB s = true by unfold pendB; rw [d4, hfb]; rfl)
                      cases hcf : (confE s.cls == 0) with
                      | false =>
                        have HG := Aside0.mk (stateE_bad (.inr (.inr (.inr (.inr hcf)))))
                        have hcf2 : (confE s.cls != 0) = true := by simp [bne, hcf]
                        go_wp2_with (first | (go_at_call 51; refine (refClashes_calls C o s.cls _ (HS.out.below HB5.out).hc HCX.out).mono ?_; rintro e w6 ⟨rfl, hb⟩; have HB6 := Aside0.mk (below_step HB5.out hb); clear hb) | (go_at_call 52; refine (rmade_calls s.pend _ (HS.out.below HB2.out)).mono ?_; rw [HFB.out]; rintro e w5 ⟨cc, rfl, hb⟩; have HB5 := Aside0.mk (below_step HB2.out hb); have hk5 := (Fr.of_below (B := 0) (T := []) hb).blk HKS.out (by simp); obtain ⟨t0, t1, t2, t3, t4, t5, t6⟩ := st_cells hk5; clear hb hk5))
                        go_ret
                        rw [HG.out]
                        exact ⟨rfl, HB6.out⟩
                      | true =>
                        have HG := Aside0.mk (stateE_ok d1 HRB.out HMB.out HPD.out hcf)
                        have hcf2 : (confE s.cls != 0) = false := by simp [bne, hcf]
                        go_wp2_with (first | (go_at_call 51; refine (refClashes_calls C o s.cls _ (HS.out.below HB5.out).hc HCX.out).mono ?_; rintro e w6 ⟨rfl, hb⟩; have HB6 := Aside0.mk (below_step HB5.out hb); clear hb) | (go_at_call 52; refine (rmade_calls s.pend _ (HS.out.below HB2.out)).mono ?_; rw [HFB.out]; rintro e w5 ⟨cc, rfl, hb⟩; have HB5 := Aside0.mk (below_step HB2.out hb); have hk5 := (Fr.of_below (B := 0) (T := []) hb).blk HKS.out (by simp); obtain ⟨t0, t1, t2, t3, t4, t5, t6⟩ := st_cells hk5; clear hb hk5))
                        go_ret
                        rw [HG.out]
                        exact ⟨rfl, HB6.out⟩
end Go.Proofs.Ytabfjjcbceibpaa.Sep
namespace Go.Proofs.Ytabfjjcbceibpaa.Sep
set_option linter.unusedSimpArgs false
set_option linter.unusedVariables false
open Go.RowKit Go.Proofs.Ytabfjjcbceibpaa.PCore Go.Proofs.Ytabfjjcbceibpaa.Plain Go.Proofs.YtabfjjcbceibpaaW.PrintWords Go.Proofs.YtabfjjcbceibpaaW.PrintLast Go.Proofs.YtabfjjcbceibpaaW.PrintMore
open Go.Proofs.Ytabfjjcbceibpaa.PDat (S74 k74 S46 k46 z46 k46_mkM rd_T46 at_T46 S48 k48 z48 k48_mkM rd_T48 at_T48)
/-- Clashes told of a text. -/
theorem refOfT (t : ByteArray) (w : World) (cap : Nat) (ls : List Clash) (r : Int) (h : ofK (bytesOf t) = (ls, r)) (ht : t.size ≤ 1000000) (hc : t.size ≤ cap) :
    Calls Try.prog 23 #[.slice (some ⟨w.heap.size, 0, none⟩) t.size cap] (Lib.bytesWorld w 5 t) fun e W1 => ∃ v, e = .returned (.tuple #[v, .int .i64 r]) ∧ Kd.R k74 74 W1 w.heap.size (fun _ => True) v ls ∧ Below w.heap.size w W1 := by
  have h1 := refOf13_calls (some ⟨w.heap.size, 0, none⟩) cap (bytesOf t) (Lib.bytesWorld w 5 t) (bytes_C w t (by omega)) (by rw [bytesOf_length]; exact hc) (bytes_fine t ht)
  rw [bytesOf_length, h] at h1
  have hb := bytes_below (Below.refl w.heap.size w) (Nat.le_refl _) 5 t
  exact h1.mono fun e W1 ⟨v, he, hR, hb1⟩ => ⟨v, he, Kd.R_lower hR hb.size, below_step hb hb1⟩
theorem rdR_size {s : RS} (h : Fine s) : (rdR s).1.f0.size ≤ 1000000 := text_size h 20
theorem many_all {α : Type} (f : RS → α × RS) (Q : α → Prop) (hf : ∀ s, Fine s → Fine (f s).2) (hq : ∀ s, Fine s → Q (f s).1) : ∀ (n : Nat) {s : RS}, Fine s → ∀ x ∈ (rdMany f n s).1, Q x
  | 0, s, _ => by simp [rdMany]
  | n + 1, s, h => fun x hx => by
    simp only [rdMany, List.mem_cons] at hx
    rcases hx with rfl | hx
    · exact hq s h
    · exact many_all f Q hf hq n (hf s h) x hx
set_option maxHeartbeats 16000000 in
set_option maxRecDepth 100000 in
theorem refStateOf_calls (A : Option Addr) (c : Nat) (b : List Int) (W : World) (hC : Kd.C (Kd.int .u8) W A b.length b) (hc : b.length ≤ c) (hF : Fine (b, false)) :
    Calls Try.prog 7 #[.slice A b.length c] W fun e W1 => OfSAns W (ofS b) e W1 := by
  have hmf : ∀ (fn : Fn) (first cap : Array Value) (w : World), (Instr.makeFunc fn first cap).run Try.prog w = .ok (.func fn first cap) w := fun _ _ _ _ => rfl
  have HC := Aside0.mk hC
  have hr1 := rf_boxK hC hc hF (below_alloc (Below.refl W.heap.size W) (.cells zeroSC 29))
  have hb1 := below_alloc (below_alloc (Below.refl W.heap.size W) (.cells zeroSC 29)) (.cells #[.slice A b.length c, .bool false] 54)
  have hk1 := blk_alloc (blk_new W (.cells zeroSC 29)) (.cells #[.slice A b.length c, .bool false] 54)
  rw [← size_one] at hr1
  have HR1 := Aside0.mk hr1
  have HB1 := Aside0.mk hb1
  have HK1 := Aside0.mk hk1
  clear hr1 hb1 hk1 hc
  have HFF := Aside0.mk hF
  have huS := Try.underlying29
  have huR := Try.underlying46
  have huM := Try.underlying48
  obtain ⟨hd, s1, h1⟩ : ∃ q s1, rdText 20 (b, false) = (q, s1) := ⟨_, _, rfl⟩
  obtain ⟨x1, s2, h2⟩ : ∃ q s2, rdNum M64 s1 = (q, s2) := ⟨_, _, rfl⟩
  obtain ⟨x2, s3, h3⟩ : ∃ q s3, rdNum M64 s2 = (q, s3) := ⟨_, _, rfl⟩
  obtain ⟨x3, s4, h4⟩ : ∃ q s4, rdNum M64 s3 = (q, s4) := ⟨_, _, rfl⟩
  obtain ⟨n, s5, h5⟩ : ∃ (q : Nat) (s5 : RS), rdNum 40 s4 = ((q : Int), s5) := by
    have f1 := fine_text hF 20
    rw [h1] at f1
    have f2 := fine_num f1 M64
    rw [h2] at f2
    have f3 := fine_num f2 M64
    rw [h3] at f3
    have f4 := fine_num f3 M64
    rw [h4] at f4
    simp only at f4
    have := num_in f4 40 (by decide)
    exact ⟨(rdNum 40 s4).1.toNat, (rdNum 40 s4).2, Prod.ext (by simp only; omega) rfl⟩
  have f1 := fine_text hF 20
  rw [h1] at f1
  have f2 := fine_num f1 M64
  rw [h2] at f2
  have f3 := fine_num f2 M64
  rw [h3] at f3
  have f4 := fine_num f3 M64
  rw [h4] at f4
  have f5 := fine_num f4 40
  rw [h5] at f5
  have hn := num_in f4 40 (by decide)
  rw [h5] at hn
  simp only at f1 f2 f3 f4 f5 hn
  have HN := Aside0.mk (show n ≤ 40 by omega)
  have HF5 := Aside0.mk f5
  have HSZR := Aside0.mk (many_all rdR (fun r => r.f0.size ≤ 1000000) fine_R (fun s h => rdR_size h) n f5)
  have HST := Aside0.mk (show rdSt b = (let rs := rdMany rdR n s5; let j := rdNum 200 rs.2; let ms := rdMany rdM j.1.toNat j.2; let t := rdText 1048576 ms.2; (⟨hd, x1, x2, x3, rs.1, ms.1, []⟩, t.1, t.2)) by
    unfold rdSt
    simp only [h1, h2, h3, h4, h5, Int.toNat_natCast])
  have H1 := Aside0.mk h1
  have H2 := Aside0.mk h2
  have H3 := Aside0.mk h3
  have H4 := Aside0.mk h4
  have H5 := Aside0.mk h5
  clear hC hF h1 h2 h3 h4 h5 f1 f2 f3 f4 f5 hn
  go_enter Try.func7, Try.ntmps7
  go_wp2_with (first | (go_at_call 21; have hq := HS5.out; clear hq; refine (rf_num W.heap.size (W.heap.size + 1) _ 40 _ HS5.out.rd).mono ?_; rw [H5.out]; rintro e w6 ⟨rfl, hr, hf⟩; have HS6 := Aside0.mk (HS5.out.fr hr hf (by decide)); clear hr hf HS5) | (go_at_call 21; have hq := HS4.out; clear hq; refine (rf_num W.heap.size (W.heap.size + 1) _ M64 _ HS4.out.rd).mono ?_; rw [H4.out]; rintro e w5 ⟨rfl, hr, hf⟩; have hs := HS4.out.fr hr hf (by decide); have zz3 := hs.z 3; obtain ⟨p0, p1, p2, p3, p4, p5, p6⟩ := hs.c; have HS5 := Aside0.mk (hs.set3 (by decide) x3); clear hr hf hs HS4) | (go_at_call 21; have hq := HS3.out; clear hq; refine (rf_num W.heap.size (W.heap.size + 1) _ M64 _ HS3.out.rd).mono ?_; rw [H3.out]; rintro e w4 ⟨rfl, hr, hf⟩; have hs := HS3.out.fr hr hf (by decide); have zz2 := hs.z 2; obtain ⟨m0, m1, m2, m3, m4, m5, m6⟩ := hs.c; have HS4 := Aside0.mk (hs.set2 (by decide) x2); clear hr hf hs HS3) | (go_at_call 21; have hq := HS2.out; clear hq; refine (rf_num W.heap.size (W.heap.size + 1) _ M64 _ HS2.out.rd).mono ?_; rw [H2.out]; rintro e w3 ⟨rfl, hr, hf⟩; have hs := HS2.out.fr hr hf (by decide); have zz1 := hs.z 1; obtain ⟨l0, l1, l2, l3, l4, l5, l6⟩ := hs.c; have HS3 := Aside0.mk (hs.set1 (by decide) x1); clear hr hf hs HS2) | (go_at_call 20; refine (rf_text W.heap.size (W.heap.size + 1) (b, false) 20 _ HR1.out (by decide)).mono ?_; rw [H1.out]; rintro e w2 ⟨rfl, hr, hf⟩; have HS2 := Aside0.mk (svSt_new (T := 54) (x := hd) hr (hf.blk HK1.out (by decide)) (HB1.out.trans (hf.below HB1.out.size))); obtain ⟨k0, k1, k2, k3, k4, k5, k6⟩ := HS2.out.c; clear hr hf))
  go_loopg [7] n (fun kq v8 w' => ∃ (j : Nat) (s : RS) (v : Value) (xs : List Ref), v8 = .int .u64 (xs.length : Int) ∧ Aside0 (kq = j ∧ j + xs.length = n) ∧ Aside0 (rdMany rdR n s5 = (xs ++ (rdMany rdR j s).1, (rdMany rdR j s).2)) ∧ Aside0 (SvSt 54 (fun _ => True) W (W.heap.size + 1) w2.heap.size w' s hd x1 x2 x3 v (.slice none 0 0) (.slice none 0 0) xs []))
  case atStart => exact ⟨n, s5, .slice none 0 0, [], by rfl, ⟨rfl, by simp⟩, ⟨by simp⟩, ⟨HS6.out⟩⟩
  case round =>
    obtain ⟨j, s, v, xs, rfl, HJ, HE, HS⟩ := hrel
    cases j with
    | succ j =>
      have hj : decide ((xs.length : Int) < (n : Int)) = true := decide_eq_true (by have := HJ.out; omega)
      have hjN : decide (xs.length < n) = true := decide_eq_true (by have := HJ.out; omega)
      have HWI := Aside0.mk (wrap_up xs.length (by have := HJ.out; have := HN.out; omega))
      obtain ⟨t, sa, h1⟩ : ∃ q z, rdText 20 s = (q, z) := ⟨_, _, rfl⟩
      obtain ⟨f, sb, h2⟩ : ∃ q z, rdFlag sa = (q, z) := ⟨_, _, rfl⟩
      obtain ⟨m, sc, h3⟩ : ∃ q z, rdNum M64 sb = (q, z) := ⟨_, _, rfl⟩
      have HRX := Aside0.mk (show rdR s = (⟨t, f, m⟩, sc) by unfold rdR; rw [h1]; simp only; rw [h2]; simp only; rw [h3])
      have HQ1 := Aside0.mk h1
      have HQ2 := Aside0.mk h2
      have HQ3 := Aside0.mk h3
      clear h1 h2 h3
      go_upto_region 13 with (first | (go_at_call 21; have hq := HA2.out; clear hq; refine (rf_num W.heap.size (W.heap.size + 1) sb M64 _ HA2.out.rd).mono ?_; rw [HQ3.out]; rintro e wc ⟨rfl, hr, hf⟩; have hs := HA2.out.fr hr hf (by decide); have hx := hf.blk HX2.out (by decide); have zy2 := blk_frozen hx 2; obtain ⟨b0, b1, b2⟩ := tri_cells hx; obtain ⟨ha, hxa⟩ := hs.setX hx HLX.out (by decide) 2 (.int .u64 m); have HAL := Aside0.mk ha.loose; have HX3 := Aside0.mk (show (wc.setCell ⟨wa.heap.size, 2, none⟩ (.int .u64 m)).heap[wa.heap.size]? = some (.cells #[.string t, .bool f, .int .u64 m] 46 (0, 0)) from hxa); clear hr hf hs hx ha hxa) | (go_at_call 22; have hq := HA1.out; clear hq; refine (rf_flag W.heap.size (W.heap.size + 1) sa _ HA1.out.rd).mono ?_; rw [HQ2.out]; rintro e wb ⟨rfl, hr, hf⟩; have hs := HA1.out.fr hr hf (by decide); have hx := hf.blk HX1.out (by decide); have zy1 := blk_frozen hx 1; obtain ⟨a0, a1, a2⟩ := tri_cells hx; obtain ⟨ha, hxa⟩ := hs.setX hx HLX.out (by decide) 1 (.bool f); have HA2 := Aside0.mk ha; have HX2 := Aside0.mk (show (wb.setCell ⟨wa.heap.size, 1, none⟩ (.bool f)).heap[wa.heap.size]? = some (.cells #[.string t, .bool f, .int .u64 0] 46 (0, 0)) from hxa); clear hr hf hs hx ha hxa) | (go_at_call 20; refine (rf_text W.heap.size (W.heap.size + 1) s 20 _ HS.out.rd (by decide)).mono ?_; rw [HQ1.out]; rintro e wa ⟨rfl, hr, hf⟩; have hs := HS.out.fr hr hf (by decide); have HLX := Aside0.mk hs.bel.size; have HA1 := Aside0.mk (hs.newX #[.string t, .bool false, .int .u64 0] 46); have HX1 := Aside0.mk (blk_new wa (.cells #[.string t, .bool false, .int .u64 0] 46)); clear hr hf hs))
      generalize (wc.setCell ⟨wa.heap.size, 2, none⟩ (.int .u64 m)) = X at HAL HX3 ⊢
      obtain ⟨y0, y1, y2⟩ := tri_cells HX3.out
      obtain ⟨r0, r1, r2, r3, r4, r5, r6⟩ := HAL.out.c
      go_wp2_with (at_builtin; refine Kd.R_append k46 (w0 := W) W.heap.size rfl (.tmp 45) (.tmp 47) 25 46 (.agg #[(.string ⟨#[]⟩), (.bool false), (.int .u64 0)]) 32 rfl Try.underlying25 (by kernel_rfl) rfl (by decide) (by omega) v xs ⟨t, f, m⟩ [.string t, .bool f, .int .u64 m] (fun _ => True) (fun _ => False) rfl rfl ?aP (fun _ hk => hk.elim) ?aF ?aO ?aB ?aS ?aL ?_; (case aP => exact k46_mkM _ _ _ _); (case aF => exact fun _ _ => trivial); (case aO => exact HAL.out.hr); (case aB => exact HAL.out.bel); (case aS => exact HAL.out.bel.size); (case aL => have := HJ.out; have := HN.out; omega); intro v9 w9 ho hb hgr hat; obtain ⟨Ax, nx, cx, hvx⟩ := R_slice' ho; subst hvx; have hF9 := (show Fr W.heap.size [46] _ w9 by obtain ⟨inner, h⟩ := Kd.R_own HAL.out.hr; exact Fr.of_grown h (Nat.le_refl _) hgr (by simp)); have HS9 := Aside0.mk (HAL.out.pushR ⟨by decide, by decide⟩ ho hF9 hb); obtain ⟨qr1, qb1, qk1, qz1⟩ := HAL.out.moreR (by decide) ho hF9 hb; obtain ⟨g0, g1, g2, g3, g4, g5, g6⟩ := st_cells qb1; have zz4 := blk_frozen qb1 4; clear ho hb hgr hat hF9 qr1 qb1 qk1 qz1)
      go_roundg j
      case measure => have := HJ.out; omega
      case rel => exact ⟨j, sc, .slice Ax nx cx, xs ++ [⟨t, f, m⟩], by rw [HWI.out]; simp, ⟨rfl, by have := HJ.out; simp; omega⟩, ⟨by have h1 := many_snoc _ _ _ _ _ _ HE.out; rw [HRX.out] at h1; exact h1⟩, ⟨HS9.out⟩⟩
    | zero =>
      have HRM := Aside0.mk (show rdMany rdR n s5 = (xs, s) by rw [HE.out]; simp [rdMany])
      have hj : decide ((xs.length : Int) < (n : Int)) = false := decide_eq_false (by have := HJ.out; omega)
      have hjN : decide (xs.length < n) = false := decide_eq_false (by have := HJ.out; omega)
      have hf6 := HS.out.rd.fine
      obtain ⟨n2, s7, h7⟩ : ∃ (q : Nat) (s7 : RS), rdNum 200 s = ((q : Int), s7) := by
        have := num_in hf6 200 (by decide)
        exact ⟨(rdNum 200 s).1.toNat, (rdNum 200 s).2, Prod.ext (by simp only; omega) rfl⟩
      have hn2 := num_in hf6 200 (by decide)
      rw [h7] at hn2
      simp only at hn2
      have HN2 := Aside0.mk (show n2 ≤ 200 by omega)
      have H7 := Aside0.mk h7
      clear hf6 h7 hn2
      go_wp2_with (go_at_call 21; refine (rf_num W.heap.size (W.heap.size + 1) _ 200 _ HS.out.rd).mono ?_; rw [H7.out]; rintro e w7 ⟨rfl, hr, hf⟩; have HS7 := Aside0.mk (HS.out.fr hr hf (by decide)); clear hr hf)
      clear HS6
      clear HS HE HJ
      obtain ⟨v1, rfl⟩ : ∃ v1, v1 = v := ⟨_, rfl⟩
      obtain ⟨xs1, rfl⟩ : ∃ xs1, xs1 = xs := ⟨_, rfl⟩
      go_loopg [9] n2 (fun kq v8 w' => ∃ (j : Nat) (s : RS) (v : Value) (xs : List Made), v8 = .int .u64 (xs.length : Int) ∧ Aside0 (kq = j ∧ j + xs.length = n2) ∧ Aside0 (rdMany rdM n2 s7 = (xs ++ (rdMany rdM j s).1, (rdMany rdM j s).2)) ∧ Aside0 (SvSt 54 (fun _ => True) W (W.heap.size + 1) w2.heap.size w' s hd x1 x2 x3 v1 v (.slice none 0 0) xs1 xs))
      case atStart => exact ⟨n2, s7, .slice none 0 0, [], by rfl, ⟨rfl, by simp⟩, ⟨by simp⟩, ⟨HS7.out⟩⟩
      case round =>
        obtain ⟨j, s, v, xs, rfl, HJ, HE, HS⟩ := hrel
        cases j with
        | succ j =>
          have hj : decide ((xs.length : Int) < (n2 : Int)) = true := decide_eq_true (by have := HJ.out; omega)
          have hjN : decide (xs.length < n2) = true := decide_eq_true (by have := HJ.out; omega)
          have HWI := Aside0.mk (wrap_up xs.length (by have := HJ.out; have := HN2.out; omega))
          obtain ⟨m1, sa, h1⟩ : ∃ q z, rdNum M64 s = (q, z) := ⟨_, _, rfl⟩
          obtain ⟨m2, sb, h2⟩ : ∃ q z, rdNum M64 sa = (q, z) := ⟨_, _, rfl⟩
          have HRX := Aside0.mk (show rdM s = (⟨m1, m2⟩, sb) by unfold rdM; rw [h1]; simp only; rw [h2])
          have HQ1 := Aside0.mk h1
          have HQ2 := Aside0.mk h2
          clear h1 h2
          go_upto_region 20 with (first | (go_at_call 21; have hq := HA1.out; clear hq; refine (rf_num W.heap.size (W.heap.size + 1) sa M64 _ HA1.out.rd).mono ?_; rw [HQ2.out]; rintro e wc ⟨rfl, hr, hf⟩; have hs := HA1.out.fr hr hf (by decide); have hx := hf.blk HX1.out (by decide); have zy1 := blk_frozen hx 1; have b0 := (blk_cell hx 0).trans rfl; have b1 : World.cell? wc ⟨wa.heap.size, 1, none⟩ = some (.int .u64 0) := (blk_cell hx 1).trans rfl; obtain ⟨ha, hxa⟩ := hs.setX hx HLX.out (by decide) 1 (.int .u64 m2); have HAL := Aside0.mk ha.loose; have HX3 := Aside0.mk (show (wc.setCell ⟨wa.heap.size, 1, none⟩ (.int .u64 m2)).heap[wa.heap.size]? = some (.cells #[.int .u64 m1, .int .u64 m2] 48 (0, 0)) from hxa); clear hr hf hs hx ha hxa) | (go_at_call 21; refine (rf_num W.heap.size (W.heap.size + 1) s M64 _ HS.out.rd).mono ?_; rw [HQ1.out]; rintro e wa ⟨rfl, hr, hf⟩; have hs := HS.out.fr hr hf (by decide); have HLX := Aside0.mk hs.bel.size; have HA1 := Aside0.mk (hs.newX #[.int .u64 m1, .int .u64 0] 48); have HX1 := Aside0.mk (blk_new wa (.cells #[.int .u64 m1, .int .u64 0] 48)); clear hr hf hs))
          generalize (wc.setCell ⟨wa.heap.size, 1, none⟩ (.int .u64 m2)) = X at HAL HX3 ⊢
          have y0 : World.cell? X ⟨wa.heap.size, 0, none⟩ = some (.int .u64 m1) := (blk_cell HX3.out 0).trans rfl
          have y1 : World.cell? X ⟨wa.heap.size, 1, none⟩ = some (.int .u64 m2) := (blk_cell HX3.out 1).trans rfl
          obtain ⟨r0, r1, r2, r3, r4, r5, r6⟩ := HAL.out.c
          go_wp2_with (at_builtin; refine Kd.R_append k48 (w0 := W) W.heap.size rfl (.tmp 64) (.tmp 66) 26 48 (.agg #[(.int .u64 0), (.int .u64 0)]) 16 rfl Try.underlying26 (by kernel_rfl) rfl (by decide) (by omega) v xs ⟨m1, m2⟩ [.int .u64 m1, .int .u64 m2] (fun _ => True) (fun _ => False) rfl rfl ?aP (fun _ hk => hk.elim) ?aF ?aO ?aB ?aS ?aL ?_; (case aP => exact k48_mkM _ _ _ _); (case aF => exact fun _ _ => trivial); (case aO => exact HAL.out.hm); (case aB => exact HAL.out.bel); (case aS => exact HAL.out.bel.size); (case aL => have := HJ.out; have := HN2.out; omega); intro v9 w9 ho hb hgr hat; obtain ⟨Ax, nx, cx, hvx⟩ := R_slice' ho; subst hvx; have hF9 := (show Fr W.heap.size [48] _ w9 by obtain ⟨inner, h⟩ := Kd.R_own HAL.out.hm; exact Fr.of_grown h (Nat.le_refl _) hgr (by simp)); have HS9 := Aside0.mk (HAL.out.pushM ⟨by decide, by decide⟩ ho hF9 hb); obtain ⟨qr1, qb1, qk1, qz1⟩ := HAL.out.moreM (by decide) ho hF9 hb; obtain ⟨g0, g1, g2, g3, g4, g5, g6⟩ := st_cells qb1; have zz5 := blk_frozen qb1 5; clear ho hb hgr hat hF9 qr1 qb1 qk1 qz1)
          go_roundg j
          case measure => have := HJ.out; omega
          case rel => exact ⟨j, sb, .slice Ax nx cx, xs ++ [⟨m1, m2⟩], by rw [HWI.out]; simp, ⟨rfl, by have := HJ.out; simp; omega⟩, ⟨by have h1 := many_snoc _ _ _ _ _ _ HE.out; rw [HRX.out] at h1; exact h1⟩, ⟨HS9.out⟩⟩
        | zero =>
          have HMM := Aside0.mk (show rdMany rdM n2 s7 = (xs, s) by rw [HE.out]; simp [rdMany])
          have hj : decide ((xs.length : Int) < (n2 : Int)) = false := decide_eq_false (by have := HJ.out; omega)
          have hjN : decide (xs.length < n2) = false := decide_eq_false (by have := HJ.out; omega)
          obtain ⟨t, s8, h8⟩ : ∃ q z, rdText 1048576 s = (q, z) := ⟨_, _, rfl⟩
          have htz := text_size HS.out.rd.fine 1048576
          rw [h8] at htz
          simp only at htz
          have HTZ := Aside0.mk htz
          obtain ⟨ls, r, hk⟩ : ∃ ls r, ofK (bytesOf t) = (ls, r) := ⟨_, _, rfl⟩
          have HRS := Aside0.mk (show rdSt b = (⟨hd, x1, x2, x3, xs1, xs, []⟩, t, s8) by
            rw [HST.out]
            simp only [HRM.out, H7.out, HMM.out, h8, Int.toNat_natCast])
          have H8 := Aside0.mk h8
          have HK := Aside0.mk hk
          have kb := fun W => print_bytes (P := Try.prog) 9 22 5 Try.underlying9 Try.underlying22 Try.underlying5 t W
          obtain ⟨A1, n1, hv1, hl1, hC1⟩ := Kd.R_reads HS.out.hr
          obtain ⟨A2, m2, hv2, hl2, hC2⟩ := Kd.R_reads HS.out.hm
          subst hv1 hv2
          clear h8 htz hk hl1 hC1 hl2 hC2 HE HJ
          go_upto_region 23 with (first | (go_at_call 23; have hq := HS8.out; clear hq; refine (refOfT t w8 _ ls r HK.out HTZ.out (grownCap_ge _ _ _ _)).mono ?_; rintro e w9 ⟨v9, rfl, hR, hb⟩; obtain ⟨A9, c9, hv9, hl9, hC9⟩ := Kd.R_reads hR; subst hv9; have hs := HS8.out.below hb; have HCL := Aside0.mk (Kd.R_set (Kd.R_lower hR HS8.out.bel.size) hs.bC (fun q hq e => cl_E (T := [29]) (by decide) q hq (by rw [e]; simp)) 6 (.slice A9 ls.length c9)); obtain ⟨r0, r1, r2, r3, r4, r5, r6⟩ := hs.c; have zz6 := hs.z 6; have HS9 := Aside0.mk (hs.set6 (by decide) (.slice A9 ls.length c9)); clear hR hb hs hl9 hC9) | (go_at_call 20; refine (rf_text W.heap.size (W.heap.size + 1) s 1048576 _ HS.out.rd (by decide)).mono ?_; rw [H8.out]; rintro e w8 ⟨rfl, hr, hf⟩; have HS8 := Aside0.mk (HS.out.fr hr hf (by decide)); clear hr hf))
          generalize (w9.setCell ⟨w2.heap.size, 6, none⟩ (.slice A9 ls.length c9)) = X at HS9 HCL ⊢
          clear r0 r1 r2 r3 r4 r5 r6 zz6 HS8 HS kb
          obtain ⟨ca, cb, cc, cd, ce, cf, cg⟩ := HS9.out.c
          obtain ⟨ra, rb, rc, rd, re, rf, rg⟩ := HS9.out.r
          have y0 := HS9.out.y 0
          have y1 := HS9.out.y 1
          have y2 := HS9.out.y 2
          have y3 := HS9.out.y 3
          have y4 := HS9.out.y 4
          have y5 := HS9.out.y 5
          have y6 := HS9.out.y 6
          have HSZ := Aside0.mk (show ∀ r ∈ (⟨hd, x1, x2, x3, xs1, xs, ls⟩ : St).refs, r.f0.size ≤ 9223372036854775807 from fun r hr => by have := HSZR.out r (by rw [HRM.out]; exact hr); omega)
          have HSC := Aside0.mk (show StC X ⟨hd, x1, x2, x3, xs1, xs, ls⟩ A1 n1 A2 m2 A9 c9 from ⟨(Kd.R_reads' HS9.out.hr).2.2, (Kd.R_reads' HS9.out.hr).2.1, (Kd.R_reads' HS9.out.hm).2.2, (Kd.R_reads' HS9.out.hm).2.1, (Kd.R_reads' HCL.out).2.2, (Kd.R_reads' HCL.out).2.1⟩)
          by_cases hr0 : r = 0
          · subst hr0
            cases hd8 : rdDone s8 with
            | false =>
              have HOF := Aside0.mk (show ofS b = (zeroS, 20) by unfold ofS; rw [HRS.out]; simp only; rw [HK.out, if_neg (by rw [hd8]; simp)])
              have HDN := Aside0.mk hd8
              clear hd8
              go_wp2_with ((go_at_call 24; refine (rf_done W.heap.size (W.heap.size + 1) s8 _ HS9.out.rd).mono ?_; rw [HDN.out]; rintro e w10 ⟨rfl, rfl⟩))
              obtain ⟨hk, hf⟩ := sev_set (B := W.heap.size) HS9.out.bR (Nat.le_refl _) (.string ⟨#[]⟩) (.int .u64 0) (.int .u64 0) (.int .u64 0) (.slice none 0 0) (.slice none 0 0) (.slice none 0 0)
              refine bodyPost_ret (results_ct rfl _ _ W.heap.size 29 zeroSC (0, 0) _ rfl hk huS rfl (by kernel_rfl)) rfl ?_
              rw [HOF.out]
              exact ⟨none, 0, none, 0, none, 0, rfl, ⟨Kd.C_nil _ _, Nat.le_refl _, Kd.C_nil _ _, Nat.le_refl _, Kd.C_nil _ _, Nat.le_refl _⟩, HS9.out.bel.trans (hf.below HS9.out.bel.size)⟩
            | true =>
              have HDN := Aside0.mk hd8
              by_cases he : stateE ⟨hd, x1, x2, x3, xs1, xs, ls⟩ = 0
              · have HOF := Aside0.mk (show ofS b = (⟨hd, x1, x2, x3, xs1, xs, ls⟩, 0) by unfold ofS; rw [HRS.out]; simp only; rw [HK.out, if_pos ⟨rfl, hd8, he⟩]; rfl)
                have HEE := Aside0.mk he
                clear hd8 he
                go_wp2_with (first | (go_at_call 24; refine (rf_done W.heap.size (W.heap.size + 1) s8 _ HS9.out.rd).mono ?_; rw [HDN.out]; rintro e w10 ⟨rfl, rfl⟩) | (go_at_call 25; refine (refState_calls (s := ⟨hd, x1, x2, x3, xs1, xs, ls⟩) _ HSC.out HSZ.out).mono ?_; rw [HEE.out]; rintro e w11 ⟨rfl, hb⟩; have HS11 := Aside0.mk (HS9.out.below hb); have HCL11 := Aside0.mk (Kd.R_below HCL.out hb); obtain ⟨da, db, dc, dd, de, df, dg⟩ := HS11.out.c; obtain ⟨qa, qb, qc, qd, qe, qf, qg⟩ := HS11.out.r; have x_0 := HS11.out.y 0; have x_1 := HS11.out.y 1; have x_2 := HS11.out.y 2; have x_3 := HS11.out.y 3; have x_4 := HS11.out.y 4; have x_5 := HS11.out.y 5; have x_6 := HS11.out.y 6; clear hb))
                obtain ⟨hk, hf⟩ := sev_set (B := W.heap.size) HS11.out.bR (Nat.le_refl _) (.string hd) (.int .u64 x1) (.int .u64 x2) (.int .u64 x3) (.slice A1 xs1.length n1) (.slice A2 xs.length m2) (.slice A9 ls.length c9)
                refine bodyPost_ret (results_ct rfl _ _ W.heap.size 29 #[.string hd, .int .u64 x1, .int .u64 x2, .int .u64 x3, .slice A1 xs1.length n1, .slice A2 xs.length m2, .slice A9 ls.length c9] (0, 0) _ rfl hk huS rfl (by kernel_rfl)) rfl ?_
                rw [HOF.out]
                exact ⟨A1, n1, A2, m2, A9, c9, rfl, ⟨(Kd.R_reads' (hf.R HS11.out.hr (ref_E (by decide)))).2.2, (Kd.R_reads' HS11.out.hr).2.1, (Kd.R_reads' (hf.R HS11.out.hm (made_E (by decide)))).2.2, (Kd.R_reads' HS11.out.hm).2.1, (Kd.R_reads' (hf.R HCL11.out (cl_E (by decide)))).2.2, (Kd.R_reads' HCL11.out).2.1⟩, HS11.out.bel.trans (hf.below HS11.out.bel.size)⟩
              · have HOF := Aside0.mk (show ofS b = (zeroS, 20) by unfold ofS; rw [HRS.out]; simp only; rw [HK.out, if_neg (fun h => he h.2.2)])
                have he' : (stateE ⟨hd, x1, x2, x3, xs1, xs, ls⟩ != 0) = true := bne_iff_ne.mpr he
                clear hd8 he
                go_wp2_with (first | (go_at_call 24; refine (rf_done W.heap.size (W.heap.size + 1) s8 _ HS9.out.rd).mono ?_; rw [HDN.out]; rintro e w10 ⟨rfl, rfl⟩) | (go_at_call 25; refine (refState_calls (s := ⟨hd, x1, x2, x3, xs1, xs, ls⟩) _ HSC.out HSZ.out).mono ?_; rintro e w11 ⟨rfl, hb⟩; have HS11 := Aside0.mk (HS9.out.below hb); have HCL11 := Aside0.mk (Kd.R_below HCL.out hb); obtain ⟨da, db, dc, dd, de, df, dg⟩ := HS11.out.c; obtain ⟨qa, qb, qc, qd, qe, qf, qg⟩ := HS11.out.r; have x_0 := HS11.out.y 0; have x_1 := HS11.out.y 1; have x_2 := HS11.out.y 2; have x_3 := HS11.out.y 3; have x_4 := HS11.out.y 4; have x_5 := HS11.out.y 5; have x_6 := HS11.out.y 6; clear hb))
                obtain ⟨hk, hf⟩ := sev_set (B := W.heap.size) HS11.out.bR (Nat.le_refl _) (.string ⟨#[]⟩) (.int .u64 0) (.int .u64 0) (.int .u64 0) (.slice none 0 0) (.slice none 0 0) (.slice none 0 0)
                refine bodyPost_ret (results_ct rfl _ _ W.heap.size 29 zeroSC (0, 0) _ rfl hk huS rfl (by kernel_rfl)) rfl ?_
                rw [HOF.out]
                exact ⟨none, 0, none, 0, none, 0, rfl, ⟨Kd.C_nil _ _, Nat.le_refl _, Kd.C_nil _ _, Nat.le_refl _, Kd.C_nil _ _, Nat.le_refl _⟩, HS11.out.bel.trans (hf.below HS11.out.bel.size)⟩
          · have HOF := Aside0.mk (show ofS b = (zeroS, 20) by unfold ofS; rw [HRS.out]; simp only; rw [HK.out, if_neg (fun h => hr0 h.1)])
            have hr1 : (r != 0) = true := bne_iff_ne.mpr hr0
            clear hr0
            go_wp2
            obtain ⟨hk, hf⟩ := sev_set (B := W.heap.size) HS9.out.bR (Nat.le_refl _) (.string ⟨#[]⟩) (.int .u64 0) (.int .u64 0) (.int .u64 0) (.slice none 0 0) (.slice none 0 0) (.slice none 0 0)
            refine bodyPost_ret (results_ct rfl _ _ W.heap.size 29 zeroSC (0, 0) _ rfl hk huS rfl (by kernel_rfl)) rfl ?_
            rw [HOF.out]
            exact ⟨none, 0, none, 0, none, 0, rfl, ⟨Kd.C_nil _ _, Nat.le_refl _, Kd.C_nil _ _, Nat.le_refl _, Kd.C_nil _ _, Nat.le_refl _⟩, HS9.out.bel.trans (hf.below HS9.out.bel.size)⟩

end Go.Proofs.Ytabfjjcbceibpaa.Sep
