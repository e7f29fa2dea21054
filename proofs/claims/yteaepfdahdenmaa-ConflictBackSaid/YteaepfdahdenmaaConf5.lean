/- Clashes' bytes: the reference's PutClashes. Printed by gen5.py. Conditions: the bounds of the statements. -/
import Derived.Test.YteaepfdahdenmaaConf3
import Derived.Test.YteaepfdahdenmaaConf4
import Derived.Test.YteaepfdahdenmaaRefPut2
import Derived.Deep.RegionHeld3
namespace Go.Proofs.Yteaepfdahdenmaa.Sep
set_option linter.unusedSimpArgs false
set_option linter.unusedVariables false
open Go.RowKit Go.Proofs.Yteaepfdahdenmaa.PCore Go.Proofs.Yteaepfdahdenmaa.Plain Go.Proofs.YteaepfdahdenmaaW.PrintWords Go.Proofs.YteaepfdahdenmaaW.PrintLast Go.Proofs.YteaepfdahdenmaaW.PrintMore
open Go.Proofs.Yteaepfdahdenmaa.PDat (S44 k44 z44 rd_T44 at_T44 S46 k46 z46 rd_T46 at_T46)
theorem sd_E {T : List Nat} (h : 5 ∉ T) : ∀ q, q ∈ 5 :: (Kd.int .u8).E → q ∉ T := fun q hq => by
  have e : q = 5 := by simpa [Kd.int, Kd.scalar] using hq
  rw [e]
  exact h
set_option maxHeartbeats 16000000 in
set_option maxRecDepth 100000 in
theorem refPut13_calls (A : Option Addr) (n : Nat) (l : List Clash) (W : World) (hC : Kd.C k46 W A l.length l) (hn : l.length ≤ 9223372036854775807) :
    Calls Try.prog 8 #[.slice A l.length n] W fun e W1 => ∃ v, e = .returned (.tuple #[v, .int .i64 (putE l)]) ∧ Kd.R (Kd.int .u8) 5 W1 W.heap.size (fun _ => True) v (putL l) ∧ Below W.heap.size W W1 := by
  have HC := Aside0.mk hC
  have HN := Aside0.mk hn
  have HR := Aside0.mk (refClashes_calls A n l W hC hn)
  clear hC hn
  have huF := Try.underlying46
  have huS := Try.underlying44
  by_cases he : confE l = 0
  · by_cases hl : (1000 : Int) < (l.length : Int)
    · have hl' : decide ((1000 : Int) < (l.length : Int)) = true := decide_eq_true hl
      have HE := Aside0.mk he
      have HP := Aside0.mk (show putE l = 132 by unfold putE; rw [if_neg (by simpa using he), if_neg (by omega)])
      clear he hl
      go_enter Try.func8, Try.ntmps8
      go_wp2_with (go_at_call 12; refine HR.out.mono ?_; rw [HE.out]; rintro e w2 ⟨rfl, hb⟩; have HB2 := Aside0.mk hb; clear hb)
      go_ret2
      refine ⟨.slice none 0 0, by rw [HP.out]; rfl, ?_, HB2.out⟩
      have : putL l = [] := by unfold putL; rw [HP.out]; rfl
      rw [this]
      exact Kd.R_nil _ _ _ _ _
    · have hl' : decide ((1000 : Int) < (l.length : Int)) = false := decide_eq_false hl
      have HE := Aside0.mk he
      have HP := Aside0.mk (show putE l = 0 by unfold putE; rw [if_neg (by simpa using he), if_pos (by omega)])
      have HPL := Aside0.mk (show putL l = encL l by unfold putL; rw [if_pos HP.out])
      have HSM := Aside0.mk (putE_zero HP.out)
      have HL := Aside0.mk (enc_len_u64 (n := (l.length : Int)) (by omega) (by omega))
      have hcl : IntKind.u64.wrap (l.length : Int) = (l.length : Int) := by rw [IntKind.wrap_u64]; omega
      clear he hl
      go_enter Try.func8, Try.ntmps8
      go_wp2_with (first | (go_at_call 12; refine HR.out.mono ?_; rw [HE.out]; rintro e w2 ⟨rfl, hb⟩; have HB2 := Aside0.mk hb; clear hb) | (go_at_call 19; refine (rn_num2 w2 w2 (.slice none 0 0) [] (l.length : Int) (Below.refl _ _) (Kd.R_nil _ _ _ _ _) ⟨by omega, by have := HSM.out.2.1; omega⟩ (by decide)).mono ?_; rintro e w3 ⟨v3, rfl, hr, hb, hf⟩; have HR3 := Aside0.mk hr; have HB3 := Aside0.mk hb; clear hr hb hf))
      go_loopg [5, 24] l.length (fun kq v5 v24 w' => ∃ i : Nat, v24 = .int .i64 i ∧ Aside0 (i ≤ l.length ∧ kq = l.length - i) ∧ Aside0 (Kd.R (Kd.int .u8) 5 w' w2.heap.size (fun _ => True) v5 (enc l.length ++ encCls (l.take i))) ∧ Aside0 (Below w2.heap.size w2 w'))
      case atStart => exact ⟨0, rfl, ⟨by omega, by omega⟩, ⟨by have := HR3.out; rw [List.nil_append] at this; simpa [encCls] using this⟩, ⟨HB3.out⟩⟩
      case round =>
        obtain ⟨i, rfl, HI, HW, HB⟩ := hrel
        by_cases hlt : i < l.length
        · obtain ⟨ad, rfl, h0, h1, h2, h3, h4, h5, h6⟩ := at_T46 (Kd.C_below HC.out (below_step HB2.out HB.out)) (i : Int) (by omega) (by omega)
          have HTK := Aside0.mk (encCls_take i hlt)
          have HSI0 := HSM.out.2.2 _ (List.getElem_mem hlt)
          rw [← cl_at i hlt] at HSI0
          have HSI := Aside0.mk HSI0
          clear HSI0
          have HLB := Aside0.mk (show (enc (l.length : Int) ++ encCls (l.take i)).length ≤ 700100 by
            have h1 := encCls_len (l := l.take i) (fun c hc => HSM.out.2.2 c (List.mem_of_mem_take hc))
            have h2 := HL.out
            have h3 := HSM.out.2.1
            rw [List.length_take] at h1
            rw [List.length_append]
            omega)
          simp only [Int.toNat_natCast] at h0 h1 h2 h3 h4 h5 h6
          generalize hc : rd_T46 l (i : Int) = c at h0 h1 h2 h3 h4 h5 h6 HTK HSI
          clear hc
          obtain ⟨f0, ⟨g0, g1⟩, ⟨p0, p1⟩, ⟨q0, q1⟩⟩ := c
          simp only at h0 h1 h2 h3 h4 h5 h6
          have hlt' : (i : Int) < (l.length : Int) := by omega
          have HWI := Aside0.mk (show wrap64 ((i : Int) + 1) = ((i + 1 : Nat) : Int) by have := HN.out; unfold wrap64; omega)
          have HZ0 := Aside0.mk (show f0.size ≤ 40 from HSI.out.1)
          have HSL := Aside0.mk (sides_len HSI.out)
          generalize hbs : enc (l.length : Int) ++ encCls (l.take i) = bs at HW HLB
          have HBS := Aside0.mk hbs
          clear hbs
          go_wp2_with (go_at_call 20; refine (rn_text2 w2 _ u5 bs f0 (below_alloc HB.out _) (Kd.R_alloc HW.out _) (by have := HLB.out; have := HZ0.out; omega)).mono ?_; rintro e w4 ⟨v4', rfl, hr, hb, hf⟩; have HR4 := Aside0.mk hr; have HB4 := Aside0.mk hb; have hv4 := hf.blk (blk_new wr (.cells #[.string f0, .bool g0, .string g1, .bool p0, .string p1, .bool q0, .string q1] 46)) (by decide); have v0 : World.cell? w4 ⟨wr.heap.size, 0, none⟩ = some (.string f0) := (blk_cell hv4 0).trans rfl; have v1 : World.cell? w4 ⟨wr.heap.size, 1, none⟩ = some (.bool g0) := (blk_cell hv4 1).trans rfl; have v2 : World.cell? w4 ⟨wr.heap.size, 2, none⟩ = some (.string g1) := (blk_cell hv4 2).trans rfl; have v3 : World.cell? w4 ⟨wr.heap.size, 3, none⟩ = some (.bool p0) := (blk_cell hv4 3).trans rfl; have v4 : World.cell? w4 ⟨wr.heap.size, 4, none⟩ = some (.string p1) := (blk_cell hv4 4).trans rfl; have v5 : World.cell? w4 ⟨wr.heap.size, 5, none⟩ = some (.bool q0) := (blk_cell hv4 5).trans rfl; have v6 : World.cell? w4 ⟨wr.heap.size, 6, none⟩ = some (.string q1) := (blk_cell hv4 6).trans rfl; clear hr hb hf hv4)
          clear h0 h1 h2 h3 h4 h5 h6 v0 v1 v2 v3 v4 v5 v6
          have HS5 := Aside0.mk (blk_new w4 (.cells #[.bool g0, .string g1, .bool p0, .string p1, .bool q0, .string q1] 44))
          have HR5 := Aside0.mk (Kd.R_alloc HR4.out (.cells #[.bool g0, .string g1, .bool p0, .string p1, .bool q0, .string q1] 44))
          have HB5 := Aside0.mk (below_alloc HB4.out (.cells #[.bool g0, .string g1, .bool p0, .string p1, .bool q0, .string q1] 44))
          generalize w4.alloc (.cells #[.bool g0, .string g1, .bool p0, .string p1, .bool q0, .string q1] 44) = w5 at HS5 HR5 HB5 ⊢
          generalize w4.heap.size = gs at HS5 ⊢
          clear HR4 HB4
          go_loopg [5, 40] 3 (fun kq v5 v40 w' => ∃ k : Nat, v40 = .int .i64 k ∧ Aside0 (k ≤ 3 ∧ kq = 3 - k) ∧ Aside0 (Kd.R (Kd.int .u8) 5 w' w2.heap.size (fun _ => True) v5 (bs ++ encT f0 ++ sidesEnc ⟨f0, ⟨g0, g1⟩, ⟨p0, p1⟩, ⟨q0, q1⟩⟩ k)) ∧ Aside0 (w'.heap[gs]? = some (.cells #[.bool g0, .string g1, .bool p0, .string p1, .bool q0, .string q1] 44 (0, 0))) ∧ Aside0 (Below w2.heap.size w2 w'))
          case atStart => exact ⟨0, rfl, ⟨by omega, by omega⟩, ⟨by have := HR5.out; simpa [sidesEnc] using this⟩, ⟨HS5.out⟩, ⟨HB5.out⟩⟩
          case round =>
            obtain ⟨k, rfl, HI3, HWk, HSk, HBk⟩ := hrel
            have HT0 := Aside0.mk (encT_len f0 (by have := HZ0.out; omega))
            have s0 : World.cell? wr ⟨gs, 0, none⟩ = some (.bool g0) := (blk_cell HSk.out 0).trans rfl
            have s1 : World.cell? wr ⟨gs, 1, none⟩ = some (.string g1) := (blk_cell HSk.out 1).trans rfl
            have s2 : World.cell? wr ⟨gs, 2, none⟩ = some (.bool p0) := (blk_cell HSk.out 2).trans rfl
            have s3 : World.cell? wr ⟨gs, 3, none⟩ = some (.string p1) := (blk_cell HSk.out 3).trans rfl
            have s4 : World.cell? wr ⟨gs, 4, none⟩ = some (.bool q0) := (blk_cell HSk.out 4).trans rfl
            have s5 : World.cell? wr ⟨gs, 5, none⟩ = some (.string q1) := (blk_cell HSk.out 5).trans rfl
            rcases (show k = 0 ∨ k = 1 ∨ k = 2 ∨ k = 3 by have := HI3.out; omega) with rfl | rfl | rfl | rfl
            · go_wp2
              have hy := blk_new wr (.cells #[.bool g0, .string g1] 44)
              have HRy := Aside0.mk (Kd.R_alloc HWk.out (.cells #[.bool g0, .string g1] 44))
              have HSy := Aside0.mk (blk_alloc HSk.out (.cells #[.bool g0, .string g1] 44))
              have HBy := Aside0.mk (below_alloc HBk.out (.cells #[.bool g0, .string g1] 44))
              generalize wr.alloc (.cells #[.bool g0, .string g1] 44) = wy at hy HRy HSy HBy ⊢
              generalize wr.heap.size = gy at hy ⊢
              have HY := Aside0.mk hy
              have yd0 : World.cell? wy.drew ⟨gy, 0, none⟩ = some (.bool g0) := (blk_cell (blk_drew hy) 0).trans rfl
              have yd1 : World.cell? wy.drew ⟨gy, 1, none⟩ = some (.string g1) := (blk_cell (blk_drew hy) 1).trans rfl
              have HRd := Aside0.mk (Kd.R_drew HRy.out)
              have HSd := Aside0.mk (blk_drew HSy.out)
              have HBd := Aside0.mk (below_drew HBy.out)
              have HYd := Aside0.mk (blk_drew hy)
              clear hy s0 s1 s2 s3 s4 s5
              go_region_held3 (fun w' => World.cell? w' ⟨gy, 0, none⟩ = some (.bool g0) ∧ World.cell? w' ⟨gy, 1, none⟩ = some (.string g1)) (first | exact ⟨yd0, yd1⟩ | exact ⟨y60, y61⟩ | exact ⟨y70, y71⟩ | go_keep) (first | (go_at_call 21; refine (rn_flag2 w2 _ _ _ g0 HBd.out HRd.out (by have h1 := HLB.out; have h2 := HT0.out; have h3 := HZ0.out; have h4 := HSL.out 0; simp only [List.length_append]; omega)).mono ?_; rintro e w6 ⟨v6', rfl, hr, hb, hf⟩; have HR6 := Aside0.mk hr; have HB6 := Aside0.mk hb; have HS6 := Aside0.mk (hf.blk HSd.out (by decide)); have HY6 := Aside0.mk (hf.blk HYd.out (by decide)); have y60 : World.cell? w6 ⟨gy, 0, none⟩ = some (.bool g0) := (blk_cell HY6.out 0).trans rfl; have y61 : World.cell? w6 ⟨gy, 1, none⟩ = some (.string g1) := (blk_cell HY6.out 1).trans rfl; clear hr hb hf) | (go_at_call 20; refine (rn_text2 w2 _ _ _ g1 HB6.out HR6.out (by have h1 := HLB.out; have h2 := HT0.out; have h3 := HZ0.out; have h4 := HSL.out 0; have h5 := HSI.out.2; have h6 : g1.size ≤ 200 := (by first | exact h5.1 | exact h5.2.1 | exact h5.2.2); have h7 : (encB g0).length = 1 := rfl; simp only [List.length_append, h7]; omega)).mono ?_; rintro e w7 ⟨v7', rfl, hr, hb, hf⟩; have HR7 := Aside0.mk hr; have HB7 := Aside0.mk hb; have HS7 := Aside0.mk (hf.blk HS6.out (by decide)); have hY7 := hf.blk HY6.out (by decide); have y70 : World.cell? w7 ⟨gy, 0, none⟩ = some (.bool g0) := (blk_cell hY7 0).trans rfl; have y71 : World.cell? w7 ⟨gy, 1, none⟩ = some (.string g1) := (blk_cell hY7 1).trans rfl; clear hr hb hf hY7))
              all_goals (
                go_wp2
                go_roundg 2
                case measure => have := HI3.out; omega
                case rel => exact ⟨1, rfl, ⟨by omega, by omega⟩, ⟨by have := HR7.out; simpa [sidesEnc, encS, sideAt, List.append_assoc] using this⟩, ⟨HS7.out⟩, ⟨HB7.out⟩⟩)
            · go_wp2
              have hy := blk_new wr (.cells #[.bool p0, .string p1] 44)
              have HRy := Aside0.mk (Kd.R_alloc HWk.out (.cells #[.bool p0, .string p1] 44))
              have HSy := Aside0.mk (blk_alloc HSk.out (.cells #[.bool p0, .string p1] 44))
              have HBy := Aside0.mk (below_alloc HBk.out (.cells #[.bool p0, .string p1] 44))
              generalize wr.alloc (.cells #[.bool p0, .string p1] 44) = wy at hy HRy HSy HBy ⊢
              generalize wr.heap.size = gy at hy ⊢
              have HY := Aside0.mk hy
              have yd0 : World.cell? wy.drew ⟨gy, 0, none⟩ = some (.bool p0) := (blk_cell (blk_drew hy) 0).trans rfl
              have yd1 : World.cell? wy.drew ⟨gy, 1, none⟩ = some (.string p1) := (blk_cell (blk_drew hy) 1).trans rfl
              have HRd := Aside0.mk (Kd.R_drew HRy.out)
              have HSd := Aside0.mk (blk_drew HSy.out)
              have HBd := Aside0.mk (below_drew HBy.out)
              have HYd := Aside0.mk (blk_drew hy)
              clear hy s0 s1 s2 s3 s4 s5
              go_region_held3 (fun w' => World.cell? w' ⟨gy, 0, none⟩ = some (.bool p0) ∧ World.cell? w' ⟨gy, 1, none⟩ = some (.string p1)) (first | exact ⟨yd0, yd1⟩ | exact ⟨y60, y61⟩ | exact ⟨y70, y71⟩ | go_keep) (first | (go_at_call 21; refine (rn_flag2 w2 _ _ _ p0 HBd.out HRd.out (by have h1 := HLB.out; have h2 := HT0.out; have h3 := HZ0.out; have h4 := HSL.out 1; simp only [List.length_append]; omega)).mono ?_; rintro e w6 ⟨v6', rfl, hr, hb, hf⟩; have HR6 := Aside0.mk hr; have HB6 := Aside0.mk hb; have HS6 := Aside0.mk (hf.blk HSd.out (by decide)); have HY6 := Aside0.mk (hf.blk HYd.out (by decide)); have y60 : World.cell? w6 ⟨gy, 0, none⟩ = some (.bool p0) := (blk_cell HY6.out 0).trans rfl; have y61 : World.cell? w6 ⟨gy, 1, none⟩ = some (.string p1) := (blk_cell HY6.out 1).trans rfl; clear hr hb hf) | (go_at_call 20; refine (rn_text2 w2 _ _ _ p1 HB6.out HR6.out (by have h1 := HLB.out; have h2 := HT0.out; have h3 := HZ0.out; have h4 := HSL.out 1; have h5 := HSI.out.2; have h6 : p1.size ≤ 200 := (by first | exact h5.1 | exact h5.2.1 | exact h5.2.2); have h7 : (encB p0).length = 1 := rfl; simp only [List.length_append, h7]; omega)).mono ?_; rintro e w7 ⟨v7', rfl, hr, hb, hf⟩; have HR7 := Aside0.mk hr; have HB7 := Aside0.mk hb; have HS7 := Aside0.mk (hf.blk HS6.out (by decide)); have hY7 := hf.blk HY6.out (by decide); have y70 : World.cell? w7 ⟨gy, 0, none⟩ = some (.bool p0) := (blk_cell hY7 0).trans rfl; have y71 : World.cell? w7 ⟨gy, 1, none⟩ = some (.string p1) := (blk_cell hY7 1).trans rfl; clear hr hb hf hY7))
              all_goals (
                go_wp2
                go_roundg 1
                case measure => have := HI3.out; omega
                case rel => exact ⟨2, rfl, ⟨by omega, by omega⟩, ⟨by have := HR7.out; simpa [sidesEnc, encS, sideAt, List.append_assoc] using this⟩, ⟨HS7.out⟩, ⟨HB7.out⟩⟩)
            · go_wp2
              have hy := blk_new wr (.cells #[.bool q0, .string q1] 44)
              have HRy := Aside0.mk (Kd.R_alloc HWk.out (.cells #[.bool q0, .string q1] 44))
              have HSy := Aside0.mk (blk_alloc HSk.out (.cells #[.bool q0, .string q1] 44))
              have HBy := Aside0.mk (below_alloc HBk.out (.cells #[.bool q0, .string q1] 44))
              generalize wr.alloc (.cells #[.bool q0, .string q1] 44) = wy at hy HRy HSy HBy ⊢
              generalize wr.heap.size = gy at hy ⊢
              have HY := Aside0.mk hy
              have yd0 : World.cell? wy.drew ⟨gy, 0, none⟩ = some (.bool q0) := (blk_cell (blk_drew hy) 0).trans rfl
              have yd1 : World.cell? wy.drew ⟨gy, 1, none⟩ = some (.string q1) := (blk_cell (blk_drew hy) 1).trans rfl
              have HRd := Aside0.mk (Kd.R_drew HRy.out)
              have HSd := Aside0.mk (blk_drew HSy.out)
              have HBd := Aside0.mk (below_drew HBy.out)
              have HYd := Aside0.mk (blk_drew hy)
              clear hy s0 s1 s2 s3 s4 s5
              go_region_held3 (fun w' => World.cell? w' ⟨gy, 0, none⟩ = some (.bool q0) ∧ World.cell? w' ⟨gy, 1, none⟩ = some (.string q1)) (first | exact ⟨yd0, yd1⟩ | exact ⟨y60, y61⟩ | exact ⟨y70, y71⟩ | go_keep) (first | (go_at_call 21; refine (rn_flag2 w2 _ _ _ q0 HBd.out HRd.out (by have h1 := HLB.out; have h2 := HT0.out; have h3 := HZ0.out; have h4 := HSL.out 2; simp only [List.length_append]; omega)).mono ?_; rintro e w6 ⟨v6', rfl, hr, hb, hf⟩; have HR6 := Aside0.mk hr; have HB6 := Aside0.mk hb; have HS6 := Aside0.mk (hf.blk HSd.out (by decide)); have HY6 := Aside0.mk (hf.blk HYd.out (by decide)); have y60 : World.cell? w6 ⟨gy, 0, none⟩ = some (.bool q0) := (blk_cell HY6.out 0).trans rfl; have y61 : World.cell? w6 ⟨gy, 1, none⟩ = some (.string q1) := (blk_cell HY6.out 1).trans rfl; clear hr hb hf) | (go_at_call 20; refine (rn_text2 w2 _ _ _ q1 HB6.out HR6.out (by have h1 := HLB.out; have h2 := HT0.out; have h3 := HZ0.out; have h4 := HSL.out 2; have h5 := HSI.out.2; have h6 : q1.size ≤ 200 := (by first | exact h5.1 | exact h5.2.1 | exact h5.2.2); have h7 : (encB q0).length = 1 := rfl; simp only [List.length_append, h7]; omega)).mono ?_; rintro e w7 ⟨v7', rfl, hr, hb, hf⟩; have HR7 := Aside0.mk hr; have HB7 := Aside0.mk hb; have HS7 := Aside0.mk (hf.blk HS6.out (by decide)); have hY7 := hf.blk HY6.out (by decide); have y70 : World.cell? w7 ⟨gy, 0, none⟩ = some (.bool q0) := (blk_cell hY7 0).trans rfl; have y71 : World.cell? w7 ⟨gy, 1, none⟩ = some (.string q1) := (blk_cell hY7 1).trans rfl; clear hr hb hf hY7))
              all_goals (
                go_wp2
                go_roundg 0
                case measure => have := HI3.out; omega
                case rel => exact ⟨3, rfl, ⟨by omega, by omega⟩, ⟨by have := HR7.out; simpa [sidesEnc, encS, sideAt, List.append_assoc] using this⟩, ⟨HS7.out⟩, ⟨HB7.out⟩⟩)
            · go_wp2
              go_roundg (l.length - (i + 1))
              case measure => have := HI.out; omega
              case rel => exact ⟨i + 1, by rw [HWI.out], ⟨by omega, rfl⟩, ⟨by
                have h := HWk.out
                rw [HTK.out, ← List.append_assoc, HBS.out, encCl, ← List.append_assoc]
                exact h⟩, ⟨HBk.out⟩⟩
        · have hI : i = l.length := by have := HI.out; omega
          subst hI
          go_wp2
          go_ret2
          refine ⟨u5, by rw [HP.out]; rfl, ?_, below_step HB2.out HB.out⟩
          rw [HPL.out, encL]
          have := HW.out
          rw [List.take_length] at this
          exact Kd.R_lower this HB2.out.size
  · have he' : (confE l != 0) = true := bne_iff_ne.mpr he
    have HP := Aside0.mk (show putE l = confE l by unfold putE; rw [if_pos he])
    have HPL := Aside0.mk (show putL l = [] by unfold putL; rw [HP.out, if_neg he])
    clear he
    go_enter Try.func8, Try.ntmps8
    go_wp2_with (go_at_call 12; refine HR.out.mono ?_; rintro e w2 ⟨rfl, hb⟩; have HB2 := Aside0.mk hb; clear hb)
    go_ret2
    refine ⟨.slice none 0 0, by rw [HP.out]; rfl, ?_, HB2.out⟩
    rw [HPL.out]
    exact Kd.R_nil _ _ _ _ _
end Go.Proofs.Yteaepfdahdenmaa.Sep
