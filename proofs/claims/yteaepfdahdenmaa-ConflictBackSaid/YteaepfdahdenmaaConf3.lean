/- Which clashes may be: the reference's Clashes. Printed by gen3.py. Conditions: the bounds of the statements. -/
import Derived.Test.YteaepfdahdenmaaConf2
namespace Go.Proofs.Yteaepfdahdenmaa.Sep
set_option linter.unusedSimpArgs false
set_option linter.unusedVariables false
open Go.RowKit Go.Proofs.Yteaepfdahdenmaa.PCore Go.Proofs.Yteaepfdahdenmaa.Plain Go.Proofs.YteaepfdahdenmaaW.PrintWords Go.Proofs.YteaepfdahdenmaaW.PrintLast Go.Proofs.YteaepfdahdenmaaW.PrintMore
open Go.Proofs.Yteaepfdahdenmaa.PDat (S44 k44 z44 rd_T44 at_T44 S46 k46 z46 rd_T46 at_T46 apographref09_Key.f apographref09_Key.calls apographref09_Val.f apographref09_Val.calls apographref09_plain.f apographref09_Pick.f apographref09_Pick.calls)
theorem rkey_calls (k : ByteArray) (w : World) : Calls Try.prog 32 #[.string k] w fun e w' => e = .returned (.int .i64 (keyE k)) ∧ Below w.heap.size w w' := by
  have h : apographref09_Key.f k = some (keyE k) := by
    unfold apographref09_Key.f keyE
    split
    · rfl
    · split <;> rfl
  exact (apographref09_Key.calls k _ w h).mono fun e w' ⟨h1, h2⟩ => ⟨h1, by first | exact h2 | exact h2.below⟩
def valE (v : ByteArray) : Int := if (v.size : Int) > 200 then 101 else 0
theorem rval_calls (v : ByteArray) (w : World) : Calls Try.prog 33 #[.string v] w fun e w' => e = .returned (.int .i64 (valE v)) ∧ Below w.heap.size w w' := by
  have h : apographref09_Val.f v = some (valE v) := by
    unfold apographref09_Val.f valE
    split <;> rfl
  exact (apographref09_Val.calls v _ w h).mono fun e w' ⟨h1, h2⟩ => ⟨h1, by first | exact h2 | exact h2.below⟩
theorem plain_ok (s : Side) (h : sideE s = 0) : apographref09_plain.f s.f0 s.f1 = some (s.f0, s.f1) := by
  obtain ⟨a, b⟩ := s
  unfold sideE at h
  unfold apographref09_plain.f
  cases a with
  | true => rfl
  | false =>
    simp only [Bool.false_eq_true, if_false] at h ⊢
    by_cases h1 : (b.size : Int) > 200
    · rw [if_pos h1] at h; cases h
    · rw [if_neg h1] at h
      by_cases h2 : b.toList = ([] : List UInt8)
      · have : b = ⟨#[]⟩ := by
          rw [ByteArray.toList_eq] at h2
          obtain ⟨⟨l⟩⟩ := b
          simp only at h2
          rw [h2]
        rw [this]
      · rw [if_neg h2] at h; cases h
theorem confL_bad {p : Option ByteArray} {c : Clash} {l : List Clash} (h : oneE c ≠ 0) : confL p (c :: l) = oneE c := by simp [confL, h]
theorem pick_calls (c : Clash) (w : World) (h1 : sideE c.f1 = 0) (h2 : sideE c.f2 = 0) (h3 : sideE c.f3 = 0) :
    Calls Try.prog 34 #[.agg #[.bool c.f1.f0, .string c.f1.f1], .agg #[.bool c.f2.f0, .string c.f2.f1], .agg #[.bool c.f3.f0, .string c.f3.f1]] w fun e w' => ∃ a b, e = .returned (.tuple #[.agg #[.bool a, .string b], .bool (twin c)]) ∧ Below w.heap.size w w' := by
  have h : ∃ a b, apographref09_Pick.f c.f1.f0 c.f1.f1 c.f2.f0 c.f2.f1 c.f3.f0 c.f3.f1 = some (a, b, twin c) := by
    unfold apographref09_Pick.f
    rw [plain_ok _ h1, plain_ok _ h2, plain_ok _ h3]
    simp only [Option.bind_some]
    by_cases e1 : (c.f2.f0 == c.f3.f0 && (c.f2.f1.toList == c.f3.f1.toList)) = true
    · have ht : twin c = true := by simp only [twin, sideEq, e1, Bool.true_or]
      exact ⟨c.f2.f0, c.f2.f1, by rw [if_pos e1, ht]⟩
    · rw [if_neg e1]
      by_cases e2 : (c.f2.f0 == c.f1.f0 && (c.f2.f1.toList == c.f1.f1.toList)) = true
      · have ht : twin c = true := by simp only [twin, sideEq, e2, Bool.true_or, Bool.or_true]
        exact ⟨c.f3.f0, c.f3.f1, by rw [if_pos e2, ht]⟩
      · rw [if_neg e2]
        have ht : twin c = (c.f3.f0 == c.f1.f0 && (c.f3.f1.toList == c.f1.f1.toList)) := by
          simp only [twin, sideEq]
          rw [Bool.eq_false_iff.2 e1, Bool.eq_false_iff.2 e2, Bool.false_or, Bool.false_or]
        exact ⟨c.f2.f0, c.f2.f1, by rw [ht]⟩
  obtain ⟨a, b, h⟩ := h
  exact (apographref09_Pick.calls _ _ _ _ _ _ a b _ w h).mono fun e w' ⟨h1, h2⟩ => ⟨a, b, h1, by first | exact h2 | exact h2.below⟩
set_option maxHeartbeats 16000000 in
set_option maxRecDepth 100000 in
theorem refClashes_calls (A : Option Addr) (n : Nat) (l : List Clash) (W : World) (hC : Kd.C k46 W A l.length l) (hn : l.length ≤ 9223372036854775807) :
    Calls Try.prog 12 #[.slice A l.length n] W fun e W1 => e = .returned (.int .i64 (confE l)) ∧ Below W.heap.size W W1 := by
  have HC := Aside0.mk hC
  have HN := Aside0.mk hn
  clear hC hn
  have huF := Try.underlying46
  have huS := Try.underlying44
  go_enter Try.func12, Try.ntmps12
  go_wp2
  go_loopg [12] l.length (fun kq v12 w' => ∃ i : Nat, v12 = .int .i64 i ∧ Aside0 (i ≤ l.length ∧ kq = l.length - i) ∧ Aside0 (confE l = confL (prevK l i) (l.drop i)) ∧ Aside0 (Below W.heap.size W w'))
  case atStart => exact ⟨0, rfl, ⟨by omega, by omega⟩, ⟨rfl⟩, ⟨Below.refl _ _⟩⟩
  case round =>
    obtain ⟨i, rfl, HI, HE, HB⟩ := hrel
    by_cases hlt : i < l.length
    · obtain ⟨ad, rfl, h0, h1, h2, h3, h4, h5, h6⟩ := at_T46 (Kd.C_below HC.out HB.out) (i : Int) (by omega) (by omega)
      have hE := HE.out
      rw [cl_drop l i hlt] at hE
      have HE2 := Aside0.mk hE
      have HPS := Aside0.mk (prevK_succ l i)
      clear hE HE
      simp only [Int.toNat_natCast] at h0 h1 h2 h3 h4 h5 h6
      generalize hc : rd_T46 l (i : Int) = c at h0 h1 h2 h3 h4 h5 h6 HE2 HPS
      clear hc
      obtain ⟨f0, ⟨g0, g1⟩, ⟨p0, p1⟩, ⟨q0, q1⟩⟩ := c
      simp only at h0 h1 h2 h3 h4 h5 h6
      have hlt' : (i : Int) < (l.length : Int) := by omega
      have HWI := Aside0.mk (show wrap64 ((i : Int) + 1) = ((i + 1 : Nat) : Int) by have := HN.out; unfold wrap64; omega)
      by_cases hk : keyE f0 = 0
      · have HK := Aside0.mk hk
        clear hk
        go_wp2_with (go_at_call 32; refine (rkey_calls f0 _).mono ?_; rw [HK.out]; rintro e w2 ⟨rfl, hb⟩; have HB2 := Aside0.mk (below_step (below_alloc HB.out _) hb); have HV2 := Aside0.mk ((Fr.of_below (B := 0) (T := []) hb).blk (blk_new wr (.cells #[.string f0, .bool g0, .string g1, .bool p0, .string p1, .bool q0, .string q1] 46)) (by simp)); have v0 : World.cell? w2 ⟨wr.heap.size, 0, none⟩ = some (.string f0) := (blk_cell HV2.out 0).trans rfl; have v1 : World.cell? w2 ⟨wr.heap.size, 1, none⟩ = some (.bool g0) := (blk_cell HV2.out 1).trans rfl; have v2 : World.cell? w2 ⟨wr.heap.size, 2, none⟩ = some (.string g1) := (blk_cell HV2.out 2).trans rfl; have v3 : World.cell? w2 ⟨wr.heap.size, 3, none⟩ = some (.bool p0) := (blk_cell HV2.out 3).trans rfl; have v4 : World.cell? w2 ⟨wr.heap.size, 4, none⟩ = some (.string p1) := (blk_cell HV2.out 4).trans rfl; have v5 : World.cell? w2 ⟨wr.heap.size, 5, none⟩ = some (.bool q0) := (blk_cell HV2.out 5).trans rfl; have v6 : World.cell? w2 ⟨wr.heap.size, 6, none⟩ = some (.string q1) := (blk_cell HV2.out 6).trans rfl; clear hb)
        clear v0 v1 v2 v3 v4 v5 v6
        have HV3 := Aside0.mk (blk_alloc HV2.out (.cells #[.bool g0, .string g1, .bool p0, .string p1, .bool q0, .string q1] 44))
        have HS3 := Aside0.mk (blk_new w2 (.cells #[.bool g0, .string g1, .bool p0, .string p1, .bool q0, .string q1] 44))
        have HB3 := Aside0.mk (below_alloc HB2.out (.cells #[.bool g0, .string g1, .bool p0, .string p1, .bool q0, .string q1] 44))
        generalize w2.alloc (.cells #[.bool g0, .string g1, .bool p0, .string p1, .bool q0, .string q1] 44) = w3 at HV3 HS3 HB3 ⊢
        generalize wr.heap.size = gv at HV3 ⊢
        generalize w2.heap.size = gs at HS3 ⊢
        clear HV2 HB2 h0 h1 h2 h3 h4 h5 h6
        go_loopg [31] 3 (fun kq v31 w' => ∃ k : Nat, v31 = .int .i64 k ∧ Aside0 (k ≤ 3 ∧ kq = 3 - k) ∧ Aside0 (∀ j : Nat, j < k → sideE (sideAt ⟨f0, ⟨g0, g1⟩, ⟨p0, p1⟩, ⟨q0, q1⟩⟩ j) = 0) ∧ Aside0 (Below w3.heap.size w3 w'))
        case atStart => exact ⟨0, rfl, ⟨by omega, by omega⟩, ⟨fun j hj => by omega⟩, ⟨Below.refl _ _⟩⟩
        case round =>
          obtain ⟨k, rfl, HI3, HA, HB4⟩ := hrel
          have hs := (Fr.of_below (B := 0) (T := []) HB4.out).blk HS3.out (by simp)
          have s0 : World.cell? wr ⟨gs, 0, none⟩ = some (.bool g0) := (blk_cell hs 0).trans rfl
          have s1 : World.cell? wr ⟨gs, 1, none⟩ = some (.string g1) := (blk_cell hs 1).trans rfl
          have s2 : World.cell? wr ⟨gs, 2, none⟩ = some (.bool p0) := (blk_cell hs 2).trans rfl
          have s3 : World.cell? wr ⟨gs, 3, none⟩ = some (.string p1) := (blk_cell hs 3).trans rfl
          have s4 : World.cell? wr ⟨gs, 4, none⟩ = some (.bool q0) := (blk_cell hs 4).trans rfl
          have s5 : World.cell? wr ⟨gs, 5, none⟩ = some (.string q1) := (blk_cell hs 5).trans rfl
          clear hs
          have HBW := Aside0.mk (below_step HB3.out HB4.out)
          rcases (show k = 0 ∨ k = 1 ∨ k = 2 ∨ k = 3 by have := HI3.out; omega) with rfl | rfl | rfl | rfl
          · by_cases hv : (g1.size : Int) > 200
            · have hs1 : sideE ⟨g0, g1⟩ = 101 := by simp only [sideE]; rw [if_pos hv]
              have HG := Aside0.mk (show confE l = 101 by
                have ho : oneE ⟨f0, ⟨g0, g1⟩, ⟨p0, p1⟩, ⟨q0, q1⟩⟩ = 101 := by
                  unfold oneE
                  rw [if_neg (by simpa using HK.out)]
                  rw [if_pos (by show sideE ⟨g0, g1⟩ ≠ 0; rw [hs1]; decide)]
                  exact hs1
                rw [HE2.out, confL_bad (by rw [ho]; decide), ho])
              have hv1 : valE g1 = 101 := by simp only [valE]; rw [if_pos hv]
              clear hv hs1
              go_wp2_with (go_at_call 33; refine (rval_calls g1 _).mono ?_; rw [hv1]; rintro e w5 ⟨rfl, hb⟩; have HB5 := Aside0.mk (below_step (below_alloc HB4.out _) hb); have hy := (Fr.of_below (B := 0) (T := []) hb).blk (blk_new wr (.cells #[.bool g0, .string g1] 44)) (by simp); have y0 : World.cell? w5 ⟨wr.heap.size, 0, none⟩ = some (.bool g0) := (blk_cell hy 0).trans rfl; have y1 : World.cell? w5 ⟨wr.heap.size, 1, none⟩ = some (.string g1) := (blk_cell hy 1).trans rfl; clear hb hy)
              go_ret
              rw [HG.out]
              exact ⟨rfl, below_step HB3.out HB5.out⟩
            · have hv1 : valE g1 = 0 := by simp only [valE]; rw [if_neg hv]
              cases g0 with
              | true =>
                have HS := Aside0.mk (show sideE ⟨true, g1⟩ = 0 by simp only [sideE]; rw [if_neg hv]; rfl)
                clear hv
                go_wp2_with (go_at_call 33; refine (rval_calls g1 _).mono ?_; rw [hv1]; rintro e w5 ⟨rfl, hb⟩; have HB5 := Aside0.mk (below_step (below_alloc HB4.out _) hb); have hy := (Fr.of_below (B := 0) (T := []) hb).blk (blk_new wr (.cells #[.bool true, .string g1] 44)) (by simp); have y0 : World.cell? w5 ⟨wr.heap.size, 0, none⟩ = some (.bool true) := (blk_cell hy 0).trans rfl; have y1 : World.cell? w5 ⟨wr.heap.size, 1, none⟩ = some (.string g1) := (blk_cell hy 1).trans rfl; clear hb hy)
                go_roundg 2
                case measure => have := HI3.out; omega
                case rel => exact ⟨1, rfl, ⟨by omega, by omega⟩, ⟨fun j hj => by
                  rcases (show j < 0 ∨ j = 0 by omega) with h | rfl
                  · exact HA.out j h
                  · exact HS.out⟩, ⟨HB5.out⟩⟩
              | false =>
                by_cases hy : g1.toList = ([] : List UInt8)
                · have HS := Aside0.mk (show sideE ⟨false, g1⟩ = 0 by simp only [sideE]; rw [if_neg hv, if_neg (by decide), if_pos hy])
                  have hy' : (g1.toList != ([] : List UInt8)) = false := bne_eq_false_iff_eq.mpr hy
                  have hy2 : (g1.toList == ([] : List UInt8)) = true := beq_iff_eq.mpr hy
                  clear hv
                  go_wp2_with (go_at_call 33; refine (rval_calls g1 _).mono ?_; rw [hv1]; rintro e w5 ⟨rfl, hb⟩; have HB5 := Aside0.mk (below_step (below_alloc HB4.out _) hb); have hy := (Fr.of_below (B := 0) (T := []) hb).blk (blk_new wr (.cells #[.bool false, .string g1] 44)) (by simp); have y0 : World.cell? w5 ⟨wr.heap.size, 0, none⟩ = some (.bool false) := (blk_cell hy 0).trans rfl; have y1 : World.cell? w5 ⟨wr.heap.size, 1, none⟩ = some (.string g1) := (blk_cell hy 1).trans rfl; clear hb hy)
                  go_roundg 2
                  case measure => have := HI3.out; omega
                  case rel => exact ⟨1, rfl, ⟨by omega, by omega⟩, ⟨fun j hj => by
                    rcases (show j < 0 ∨ j = 0 by omega) with h | rfl
                    · exact HA.out j h
                    · exact HS.out⟩, ⟨HB5.out⟩⟩
                · have hs1 : sideE ⟨false, g1⟩ = 101 := by simp only [sideE]; rw [if_neg hv, if_neg (by decide), if_neg hy]
                  have hy' : (g1.toList != ([] : List UInt8)) = true := bne_iff_ne.mpr hy
                  have hy2 : (g1.toList == ([] : List UInt8)) = false := beq_eq_false_iff_ne.mpr hy
                  have HG := Aside0.mk (show confE l = 101 by
                    have ho : oneE ⟨f0, ⟨false, g1⟩, ⟨p0, p1⟩, ⟨q0, q1⟩⟩ = 101 := by
                      unfold oneE
                      rw [if_neg (by simpa using HK.out)]
                      rw [if_pos (by show sideE ⟨false, g1⟩ ≠ 0; rw [hs1]; decide)]
                      exact hs1
                    rw [HE2.out, confL_bad (by rw [ho]; decide), ho])
                  clear hv hs1 hy
                  go_wp2_with (go_at_call 33; refine (rval_calls g1 _).mono ?_; rw [hv1]; rintro e w5 ⟨rfl, hb⟩; have HB5 := Aside0.mk (below_step (below_alloc HB4.out _) hb); have hy := (Fr.of_below (B := 0) (T := []) hb).blk (blk_new wr (.cells #[.bool false, .string g1] 44)) (by simp); have y0 : World.cell? w5 ⟨wr.heap.size, 0, none⟩ = some (.bool false) := (blk_cell hy 0).trans rfl; have y1 : World.cell? w5 ⟨wr.heap.size, 1, none⟩ = some (.string g1) := (blk_cell hy 1).trans rfl; clear hb hy)
                  go_ret
                  rw [HG.out]
                  exact ⟨rfl, below_step HB3.out HB5.out⟩
          · by_cases hv : (p1.size : Int) > 200
            · have hs1 : sideE ⟨p0, p1⟩ = 101 := by simp only [sideE]; rw [if_pos hv]
              have HG := Aside0.mk (show confE l = 101 by
                have ho : oneE ⟨f0, ⟨g0, g1⟩, ⟨p0, p1⟩, ⟨q0, q1⟩⟩ = 101 := by
                  unfold oneE
                  rw [if_neg (by simpa using HK.out)]
                  rw [if_neg (by have := HA.out 0 (by omega); simpa [sideAt] using this)]; rw [if_pos (by show sideE ⟨p0, p1⟩ ≠ 0; rw [hs1]; decide)]
                  exact hs1
                rw [HE2.out, confL_bad (by rw [ho]; decide), ho])
              have hv1 : valE p1 = 101 := by simp only [valE]; rw [if_pos hv]
              clear hv hs1
              go_wp2_with (go_at_call 33; refine (rval_calls p1 _).mono ?_; rw [hv1]; rintro e w5 ⟨rfl, hb⟩; have HB5 := Aside0.mk (below_step (below_alloc HB4.out _) hb); have hy := (Fr.of_below (B := 0) (T := []) hb).blk (blk_new wr (.cells #[.bool p0, .string p1] 44)) (by simp); have y0 : World.cell? w5 ⟨wr.heap.size, 0, none⟩ = some (.bool p0) := (blk_cell hy 0).trans rfl; have y1 : World.cell? w5 ⟨wr.heap.size, 1, none⟩ = some (.string p1) := (blk_cell hy 1).trans rfl; clear hb hy)
              go_ret
              rw [HG.out]
              exact ⟨rfl, below_step HB3.out HB5.out⟩
            · have hv1 : valE p1 = 0 := by simp only [valE]; rw [if_neg hv]
              cases p0 with
              | true =>
                have HS := Aside0.mk (show sideE ⟨true, p1⟩ = 0 by simp only [sideE]; rw [if_neg hv]; rfl)
                clear hv
                go_wp2_with (go_at_call 33; refine (rval_calls p1 _).mono ?_; rw [hv1]; rintro e w5 ⟨rfl, hb⟩; have HB5 := Aside0.mk (below_step (below_alloc HB4.out _) hb); have hy := (Fr.of_below (B := 0) (T := []) hb).blk (blk_new wr (.cells #[.bool true, .string p1] 44)) (by simp); have y0 : World.cell? w5 ⟨wr.heap.size, 0, none⟩ = some (.bool true) := (blk_cell hy 0).trans rfl; have y1 : World.cell? w5 ⟨wr.heap.size, 1, none⟩ = some (.string p1) := (blk_cell hy 1).trans rfl; clear hb hy)
                go_roundg 1
                case measure => have := HI3.out; omega
                case rel => exact ⟨2, rfl, ⟨by omega, by omega⟩, ⟨fun j hj => by
                  rcases (show j < 1 ∨ j = 1 by omega) with h | rfl
                  · exact HA.out j h
                  · exact HS.out⟩, ⟨HB5.out⟩⟩
              | false =>
                by_cases hy : p1.toList = ([] : List UInt8)
                · have HS := Aside0.mk (show sideE ⟨false, p1⟩ = 0 by simp only [sideE]; rw [if_neg hv, if_neg (by decide), if_pos hy])
                  have hy' : (p1.toList != ([] : List UInt8)) = false := bne_eq_false_iff_eq.mpr hy
                  have hy2 : (p1.toList == ([] : List UInt8)) = true := beq_iff_eq.mpr hy
                  clear hv
                  go_wp2_with (go_at_call 33; refine (rval_calls p1 _).mono ?_; rw [hv1]; rintro e w5 ⟨rfl, hb⟩; have HB5 := Aside0.mk (below_step (below_alloc HB4.out _) hb); have hy := (Fr.of_below (B := 0) (T := []) hb).blk (blk_new wr (.cells #[.bool false, .string p1] 44)) (by simp); have y0 : World.cell? w5 ⟨wr.heap.size, 0, none⟩ = some (.bool false) := (blk_cell hy 0).trans rfl; have y1 : World.cell? w5 ⟨wr.heap.size, 1, none⟩ = some (.string p1) := (blk_cell hy 1).trans rfl; clear hb hy)
                  go_roundg 1
                  case measure => have := HI3.out; omega
                  case rel => exact ⟨2, rfl, ⟨by omega, by omega⟩, ⟨fun j hj => by
                    rcases (show j < 1 ∨ j = 1 by omega) with h | rfl
                    · exact HA.out j h
                    · exact HS.out⟩, ⟨HB5.out⟩⟩
                · have hs1 : sideE ⟨false, p1⟩ = 101 := by simp only [sideE]; rw [if_neg hv, if_neg (by decide), if_neg hy]
                  have hy' : (p1.toList != ([] : List UInt8)) = true := bne_iff_ne.mpr hy
                  have hy2 : (p1.toList == ([] : List UInt8)) = false := beq_eq_false_iff_ne.mpr hy
                  have HG := Aside0.mk (show confE l = 101 by
                    have ho : oneE ⟨f0, ⟨g0, g1⟩, ⟨false, p1⟩, ⟨q0, q1⟩⟩ = 101 := by
                      unfold oneE
                      rw [if_neg (by simpa using HK.out)]
                      rw [if_neg (by have := HA.out 0 (by omega); simpa [sideAt] using this)]; rw [if_pos (by show sideE ⟨false, p1⟩ ≠ 0; rw [hs1]; decide)]
                      exact hs1
                    rw [HE2.out, confL_bad (by rw [ho]; decide), ho])
                  clear hv hs1 hy
                  go_wp2_with (go_at_call 33; refine (rval_calls p1 _).mono ?_; rw [hv1]; rintro e w5 ⟨rfl, hb⟩; have HB5 := Aside0.mk (below_step (below_alloc HB4.out _) hb); have hy := (Fr.of_below (B := 0) (T := []) hb).blk (blk_new wr (.cells #[.bool false, .string p1] 44)) (by simp); have y0 : World.cell? w5 ⟨wr.heap.size, 0, none⟩ = some (.bool false) := (blk_cell hy 0).trans rfl; have y1 : World.cell? w5 ⟨wr.heap.size, 1, none⟩ = some (.string p1) := (blk_cell hy 1).trans rfl; clear hb hy)
                  go_ret
                  rw [HG.out]
                  exact ⟨rfl, below_step HB3.out HB5.out⟩
          · by_cases hv : (q1.size : Int) > 200
            · have hs1 : sideE ⟨q0, q1⟩ = 101 := by simp only [sideE]; rw [if_pos hv]
              have HG := Aside0.mk (show confE l = 101 by
                have ho : oneE ⟨f0, ⟨g0, g1⟩, ⟨p0, p1⟩, ⟨q0, q1⟩⟩ = 101 := by
                  unfold oneE
                  rw [if_neg (by simpa using HK.out)]
                  rw [if_neg (by have := HA.out 0 (by omega); simpa [sideAt] using this)]; rw [if_neg (by have := HA.out 1 (by omega); simpa [sideAt] using this)]; rw [if_pos (by show sideE ⟨q0, q1⟩ ≠ 0; rw [hs1]; decide)]
                  exact hs1
                rw [HE2.out, confL_bad (by rw [ho]; decide), ho])
              have hv1 : valE q1 = 101 := by simp only [valE]; rw [if_pos hv]
              clear hv hs1
              go_wp2_with (go_at_call 33; refine (rval_calls q1 _).mono ?_; rw [hv1]; rintro e w5 ⟨rfl, hb⟩; have HB5 := Aside0.mk (below_step (below_alloc HB4.out _) hb); have hy := (Fr.of_below (B := 0) (T := []) hb).blk (blk_new wr (.cells #[.bool q0, .string q1] 44)) (by simp); have y0 : World.cell? w5 ⟨wr.heap.size, 0, none⟩ = some (.bool q0) := (blk_cell hy 0).trans rfl; have y1 : World.cell? w5 ⟨wr.heap.size, 1, none⟩ = some (.string q1) := (blk_cell hy 1).trans rfl; clear hb hy)
              go_ret
              rw [HG.out]
              exact ⟨rfl, below_step HB3.out HB5.out⟩
            · have hv1 : valE q1 = 0 := by simp only [valE]; rw [if_neg hv]
              cases q0 with
              | true =>
                have HS := Aside0.mk (show sideE ⟨true, q1⟩ = 0 by simp only [sideE]; rw [if_neg hv]; rfl)
                clear hv
                go_wp2_with (go_at_call 33; refine (rval_calls q1 _).mono ?_; rw [hv1]; rintro e w5 ⟨rfl, hb⟩; have HB5 := Aside0.mk (below_step (below_alloc HB4.out _) hb); have hy := (Fr.of_below (B := 0) (T := []) hb).blk (blk_new wr (.cells #[.bool true, .string q1] 44)) (by simp); have y0 : World.cell? w5 ⟨wr.heap.size, 0, none⟩ = some (.bool true) := (blk_cell hy 0).trans rfl; have y1 : World.cell? w5 ⟨wr.heap.size, 1, none⟩ = some (.string q1) := (blk_cell hy 1).trans rfl; clear hb hy)
                go_roundg 0
                case measure => have := HI3.out; omega
                case rel => exact ⟨3, rfl, ⟨by omega, by omega⟩, ⟨fun j hj => by
                  rcases (show j < 2 ∨ j = 2 by omega) with h | rfl
                  · exact HA.out j h
                  · exact HS.out⟩, ⟨HB5.out⟩⟩
              | false =>
                by_cases hy : q1.toList = ([] : List UInt8)
                · have HS := Aside0.mk (show sideE ⟨false, q1⟩ = 0 by simp only [sideE]; rw [if_neg hv, if_neg (by decide), if_pos hy])
                  have hy' : (q1.toList != ([] : List UInt8)) = false := bne_eq_false_iff_eq.mpr hy
                  have hy2 : (q1.toList == ([] : List UInt8)) = true := beq_iff_eq.mpr hy
                  clear hv
                  go_wp2_with (go_at_call 33; refine (rval_calls q1 _).mono ?_; rw [hv1]; rintro e w5 ⟨rfl, hb⟩; have HB5 := Aside0.mk (below_step (below_alloc HB4.out _) hb); have hy := (Fr.of_below (B := 0) (T := []) hb).blk (blk_new wr (.cells #[.bool false, .string q1] 44)) (by simp); have y0 : World.cell? w5 ⟨wr.heap.size, 0, none⟩ = some (.bool false) := (blk_cell hy 0).trans rfl; have y1 : World.cell? w5 ⟨wr.heap.size, 1, none⟩ = some (.string q1) := (blk_cell hy 1).trans rfl; clear hb hy)
                  go_roundg 0
                  case measure => have := HI3.out; omega
                  case rel => exact ⟨3, rfl, ⟨by omega, by omega⟩, ⟨fun j hj => by
                    rcases (show j < 2 ∨ j = 2 by omega) with h | rfl
                    · exact HA.out j h
                    · exact HS.out⟩, ⟨HB5.out⟩⟩
                · have hs1 : sideE ⟨false, q1⟩ = 101 := by simp only [sideE]; rw [if_neg hv, if_neg (by decide), if_neg hy]
                  have hy' : (q1.toList != ([] : List UInt8)) = true := bne_iff_ne.mpr hy
                  have hy2 : (q1.toList == ([] : List UInt8)) = false := beq_eq_false_iff_ne.mpr hy
                  have HG := Aside0.mk (show confE l = 101 by
                    have ho : oneE ⟨f0, ⟨g0, g1⟩, ⟨p0, p1⟩, ⟨false, q1⟩⟩ = 101 := by
                      unfold oneE
                      rw [if_neg (by simpa using HK.out)]
                      rw [if_neg (by have := HA.out 0 (by omega); simpa [sideAt] using this)]; rw [if_neg (by have := HA.out 1 (by omega); simpa [sideAt] using this)]; rw [if_pos (by show sideE ⟨false, q1⟩ ≠ 0; rw [hs1]; decide)]
                      exact hs1
                    rw [HE2.out, confL_bad (by rw [ho]; decide), ho])
                  clear hv hs1 hy
                  go_wp2_with (go_at_call 33; refine (rval_calls q1 _).mono ?_; rw [hv1]; rintro e w5 ⟨rfl, hb⟩; have HB5 := Aside0.mk (below_step (below_alloc HB4.out _) hb); have hy := (Fr.of_below (B := 0) (T := []) hb).blk (blk_new wr (.cells #[.bool false, .string q1] 44)) (by simp); have y0 : World.cell? w5 ⟨wr.heap.size, 0, none⟩ = some (.bool false) := (blk_cell hy 0).trans rfl; have y1 : World.cell? w5 ⟨wr.heap.size, 1, none⟩ = some (.string q1) := (blk_cell hy 1).trans rfl; clear hb hy)
                  go_ret
                  rw [HG.out]
                  exact ⟨rfl, below_step HB3.out HB5.out⟩
          · have hv3 := (Fr.of_below (B := 0) (T := []) HB4.out).blk HV3.out (by simp)
            have v0 : World.cell? wr ⟨gv, 0, none⟩ = some (.string f0) := (blk_cell hv3 0).trans rfl
            have v1 : World.cell? wr ⟨gv, 1, none⟩ = some (.bool g0) := (blk_cell hv3 1).trans rfl
            have v2 : World.cell? wr ⟨gv, 2, none⟩ = some (.string g1) := (blk_cell hv3 2).trans rfl
            have v3 : World.cell? wr ⟨gv, 3, none⟩ = some (.bool p0) := (blk_cell hv3 3).trans rfl
            have v4 : World.cell? wr ⟨gv, 4, none⟩ = some (.string p1) := (blk_cell hv3 4).trans rfl
            have v5 : World.cell? wr ⟨gv, 5, none⟩ = some (.bool q0) := (blk_cell hv3 5).trans rfl
            have v6 : World.cell? wr ⟨gv, 6, none⟩ = some (.string q1) := (blk_cell hv3 6).trans rfl
            clear hv3
            have HO := Aside0.mk (show oneE ⟨f0, ⟨g0, g1⟩, ⟨p0, p1⟩, ⟨q0, q1⟩⟩ = if twin ⟨f0, ⟨g0, g1⟩, ⟨p0, p1⟩, ⟨q0, q1⟩⟩ = true then 132 else 0 by
              unfold oneE
              rw [if_neg (by simpa using HK.out), if_neg (by have := HA.out 0 (by omega); simpa [sideAt] using this), if_neg (by have := HA.out 1 (by omega); simpa [sideAt] using this), if_neg (by have := HA.out 2 (by omega); simpa [sideAt] using this)])
            go_wp2_with (go_at_call 34; refine (pick_calls ⟨f0, ⟨g0, g1⟩, ⟨p0, p1⟩, ⟨q0, q1⟩⟩ _ (HA.out 0 (by omega)) (HA.out 1 (by omega)) (HA.out 2 (by omega))).mono ?_; rintro e w6 ⟨pa, pb, rfl, hb⟩; have HB6 := Aside0.mk (below_step HB4.out hb); clear hb)
            have HB7 := Aside0.mk (below_step HB3.out (below_alloc HB6.out (.cells #[.bool pa, .string pb] 44)))
            have hv7 := (Fr.of_below (B := 0) (T := []) (below_alloc HB6.out (.cells #[.bool pa, .string pb] 44))).blk HV3.out (by simp)
            clear v0 v1 v2 v3 v4 v5 v6 s0 s1 s2 s3 s4 s5
            generalize w6.alloc (.cells #[.bool pa, .string pb] 44) = w7 at HB7 hv7 ⊢
            have v0 : World.cell? w7 ⟨gv, 0, none⟩ = some (.string f0) := (blk_cell hv7 0).trans rfl
            clear hv7
            cases htw : twin ⟨f0, ⟨g0, g1⟩, ⟨p0, p1⟩, ⟨q0, q1⟩⟩ with
            | true =>
              have HG := Aside0.mk (show confE l = 132 by
                have ho : oneE ⟨f0, ⟨g0, g1⟩, ⟨p0, p1⟩, ⟨q0, q1⟩⟩ = 132 := by rw [HO.out, if_pos htw]
                rw [HE2.out, confL_bad (by rw [ho]; decide), ho])
              go_quiet (fail)
              go_wp2
              go_ret
              rw [HG.out]
              exact ⟨rfl, pw_below_drewN HB7.out _⟩
            | false =>
              have ho : oneE ⟨f0, ⟨g0, g1⟩, ⟨p0, p1⟩, ⟨q0, q1⟩⟩ = 0 := by rw [HO.out, if_neg (by rw [htw]; decide)]
              by_cases hi : i = 0
              · have hi' : decide ((0 : Int) < (i : Int)) = false := decide_eq_false (by omega)
                have hiN : decide (0 < i) = false := decide_eq_false (by omega)
                have HG := Aside0.mk (show confE l = confL (some f0) (l.drop (i + 1)) by
                  rw [HE2.out, prevK, if_pos hi]
                  simp [confL, ho])
                clear hi ho
                go_quiet (fail)
                go_wp2
                go_roundg (l.length - (i + 1))
                case measure => have := HI.out; omega
                case rel => exact ⟨i + 1, by rw [HWI.out], ⟨by omega, rfl⟩, ⟨by rw [HPS.out]; exact HG.out⟩, ⟨pw_below_drewN HB7.out _⟩⟩
              · obtain ⟨j, hj⟩ : ∃ j : Nat, i = j + 1 := ⟨i - 1, by omega⟩
                have hi' : decide ((0 : Int) < (i : Int)) = true := decide_eq_true (by omega)
                have hiN : decide (0 < i) = true := decide_eq_true (by omega)
                have hwj : wrap64 ((i : Int) - 1) = (j : Int) := by have := HN.out; unfold wrap64; omega
                have hwj2 : IntKind.i64.wrap ((i : Int) - 1) = (j : Int) := by first | exact hwj | (rw [i64_w]; exact hwj)
                have hjl : (j : Int) < (l.length : Int) := by omega
                obtain ⟨ad', had, k0, _⟩ := at_T46 (Kd.C_below HC.out HB7.out) (j : Int) (by omega) (by omega)
                obtain rfl : ad = ad' := by injection had
                simp only [Int.toNat_natCast] at k0
                have hpv : prevK l i = some (rd_T46 l (j : Int)).f0 := by rw [hj, prevK_succ]
                generalize (rd_T46 l (j : Int)).f0 = key at k0 hpv
                have HPV := Aside0.mk hpv
                clear hpv
                cases hless : lessK key f0 with
                | true =>
                  have HG := Aside0.mk (show confE l = confL (some f0) (l.drop (i + 1)) by
                    rw [HE2.out, HPV.out]
                    simp [confL, ho, hless])
                  have hl' : Op.bytesLess key.toList f0.toList = true := hless
                  have hge : ∀ w, (binOp .geq 9 (.string key) (.string f0)).run Try.prog w = .ok (.bool false) w := fun w => by rw [str_geq, hl']; rfl
                  clear hi hj ho hless
                  go_quiet (fail)
                  go_wp2
                  go_roundg (l.length - (i + 1))
                  case measure => have := HI.out; omega
                  case rel => exact ⟨i + 1, by rw [HWI.out], ⟨by omega, rfl⟩, ⟨by rw [HPS.out]; exact HG.out⟩, ⟨pw_below_drewN HB7.out _⟩⟩
                | false =>
                  have HG := Aside0.mk (show confE l = 132 by
                    rw [HE2.out, HPV.out]
                    simp [confL, ho, hless])
                  have hl' : Op.bytesLess key.toList f0.toList = false := hless
                  have hge : ∀ w, (binOp .geq 9 (.string key) (.string f0)).run Try.prog w = .ok (.bool true) w := fun w => by rw [str_geq, hl']; rfl
                  clear hi hj ho hless
                  go_quiet (fail)
                  go_wp2
                  go_ret
                  rw [HG.out]
                  exact ⟨rfl, pw_below_drewN HB7.out _⟩
      · have hk' : (keyE f0 != 0) = true := bne_iff_ne.mpr hk
        have HG := Aside0.mk (show confE l = keyE f0 by
          have ho : oneE ⟨f0, ⟨g0, g1⟩, ⟨p0, p1⟩, ⟨q0, q1⟩⟩ = keyE f0 := by unfold oneE; rw [if_pos hk]
          rw [HE2.out]
          simp [confL, ho, hk])
        clear hk
        go_wp2_with (go_at_call 32; refine (rkey_calls f0 _).mono ?_; rintro e w2 ⟨rfl, hb⟩; have HB2 := Aside0.mk (below_step (below_alloc HB.out _) hb); clear hb)
        go_ret
        rw [HG.out]
        exact ⟨rfl, HB2.out⟩
    · have hI : i = l.length := by have := HI.out; omega
      subst hI
      have hE := HE.out
      rw [List.drop_length] at hE
      have HG := Aside0.mk (show confE l = 0 from hE)
      clear hE
      go_wp2
      go_ret
      rw [HG.out]
      exact ⟨rfl, HB.out⟩
end Go.Proofs.Yteaepfdahdenmaa.Sep
