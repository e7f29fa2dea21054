/- The walk of the law ReplyBack. Printed by gen21.py. Conditions: none beyond the statement's own. -/
import Derived.Test.YtcegkljkmnpkaaaRtD
import Derived.Test.YtcegkljkmnpkaaaRtE
namespace Go.Proofs.Ytcegkljkmnpkaaa.Sep
set_option linter.unusedSimpArgs false
set_option linter.unusedVariables false
open Go.RowKit Go.Proofs.Ytcegkljkmnpkaaa.PCore Go.Proofs.Ytcegkljkmnpkaaa.Plain Go.Proofs.YtcegkljkmnpkaaaW.PrintWords Go.Proofs.YtcegkljkmnpkaaaW.PrintLast Go.Proofs.YtcegkljkmnpkaaaW.PrintMore
set_option maxHeartbeats 64000000 in
set_option maxRecDepth 100000 in
theorem replyBack_walk (A1 : Option Addr) (n1 : Nat) (A2 : Option Addr) (n2 : Nat) (A3 : Option Addr) (n3 : Nat) (A4 : Option Addr) (n4 : Nat) (A5 : Option Addr) (n5 : Nat) (a : Rp) (Ab : Option Addr) (cb : Nat) (b : List Int) (W : World) (h : RpC W a A1 n1 A2 n2 A3 n3 A4 n4 A5 n5) (hw0 : okRp a)
    (hC1 : Kd.C (Kd.int .u8) W Ab b.length b) (hc1 : b.length ≤ cb) (hm1 : b.length ≤ maxLen) (hw1 : ∀ x ∈ b, (Lit.int .u8 x).wf = true) :
    Calls Try.prog 5 #[.agg (rpV a A1 n1 A2 n2 A3 n3 A4 n4 A5 n5), .slice Ab b.length cb] W fun e W1 => e = .returned (.bool true) ∧ Below W.heap.size W W1 := by
  have huR := Try.underlying30
  have HC := Aside0.mk h
  have HCb := Aside0.mk hC1
  have HNb := Aside0.mk hc1
  have HIA := Aside0.mk (okRp_in hw0)
  have HX0 := Aside0.mk (blk_new W (.cells (rpV a A1 n1 A2 n2 A3 n3 A4 n4 A5 n5) 30))
  have HB0 := Aside0.mk (below_alloc (Below.refl W.heap.size W) (.cells (rpV a A1 n1 A2 n2 A3 n3 A4 n4 A5 n5) 30))
  cases hla : lightRp a with
  | false =>
    have HLA := Aside0.mk hla
    clear hla
    clear h hw0 hC1 hc1 hm1 hw1
    go_enter Try.func5, Try.ntmps5
    go_upto_region 1 with (fail)
    generalize W.alloc (.cells (rpV a A1 n1 A2 n2 A3 n3 A4 n4 A5 n5) 30) = w0 at HX0 HB0 ⊢
    generalize hgx : W.heap.size = gx at HX0 ⊢
    go_wp2_with (first | (go_at_call 7; have hq := HB1.out; clear hq; refine (light20_calls a A1 n1 A2 n2 A3 n3 A4 n4 A5 n5 _ (HC.out.below HB1.out)).mono ?_; rw [HLA.out]; rintro e' w2 ⟨rfl, hb⟩; have HB2 := Aside0.mk (below_step HB1.out hb); have HX2 := Aside0.mk (blk_below HX1.out hb); obtain ⟨q0, q1, q2, q3, q4, q5, q6, q7, q8, q9⟩ := ten_cells HX2.out; clear hb) | (go_at_call 6; refine (awake20_calls _).mono ?_; rintro e' w1 ⟨rfl, hb⟩; have HB1 := Aside0.mk (below_step HB0.out hb); have HX1 := Aside0.mk (blk_below HX0.out hb); obtain ⟨p0, p1, p2, p3, p4, p5, p6, p7, p8, p9⟩ := ten_cells HX1.out; clear hb))
    go_ret
    exact ⟨by first | rfl | simp, HB2.out⟩
  | true =>
    have HLA := Aside0.mk hla
    have HSM := Aside0.mk (light_small hla)
    by_cases hb0 : (3000 : Int) < (b.length : Int)
    · have hb' : decide ((3000 : Int) < (b.length : Int)) = true := decide_eq_true hb0
      clear hla hb0
      clear h hw0 hC1 hc1 hm1 hw1
      go_enter Try.func5, Try.ntmps5
      go_upto_region 1 with (fail)
      generalize W.alloc (.cells (rpV a A1 n1 A2 n2 A3 n3 A4 n4 A5 n5) 30) = w0 at HX0 HB0 ⊢
      generalize hgx : W.heap.size = gx at HX0 ⊢
      go_wp2_with (first | (go_at_call 7; have hq := HB1.out; clear hq; refine (light20_calls a A1 n1 A2 n2 A3 n3 A4 n4 A5 n5 _ (HC.out.below HB1.out)).mono ?_; rw [HLA.out]; rintro e' w2 ⟨rfl, hb⟩; have HB2 := Aside0.mk (below_step HB1.out hb); have HX2 := Aside0.mk (blk_below HX1.out hb); obtain ⟨q0, q1, q2, q3, q4, q5, q6, q7, q8, q9⟩ := ten_cells HX2.out; clear hb) | (go_at_call 6; refine (awake20_calls _).mono ?_; rintro e' w1 ⟨rfl, hb⟩; have HB1 := Aside0.mk (below_step HB0.out hb); have HX1 := Aside0.mk (blk_below HX0.out hb); obtain ⟨p0, p1, p2, p3, p4, p5, p6, p7, p8, p9⟩ := ten_cells HX1.out; clear hb))
      go_ret
      exact ⟨by first | rfl | simp, HB2.out⟩
    · have hb' : decide ((3000 : Int) < (b.length : Int)) = false := decide_eq_false hb0
      have HFB := Aside0.mk (show Fine (b, false) from ⟨fun x hx => Plain.u8_of (hw1 x hx), by show b.length ≤ 1000000; omega, fun h => by simp at h⟩)
      have HLN := Aside0.mk (encRp_len a HSM.out HIA.out)
      clear hla hb0
      by_cases he0 : a.err < 0
      · have he' : decide (a.err < 0) = true := decide_eq_true he0
        clear he0
        clear h hw0 hC1 hc1 hm1 hw1
        go_enter Try.func5, Try.ntmps5
        go_upto_region 1 with (fail)
        generalize W.alloc (.cells (rpV a A1 n1 A2 n2 A3 n3 A4 n4 A5 n5) 30) = w0 at HX0 HB0 ⊢
        generalize hgx : W.heap.size = gx at HX0 ⊢
        go_wp2_with (first | (go_at_call 7; have hq := HB1.out; clear hq; refine (light20_calls a A1 n1 A2 n2 A3 n3 A4 n4 A5 n5 _ (HC.out.below HB1.out)).mono ?_; rw [HLA.out]; rintro e' w2 ⟨rfl, hb⟩; have HB2 := Aside0.mk (below_step HB1.out hb); have HX2 := Aside0.mk (blk_below HX1.out hb); obtain ⟨q0, q1, q2, q3, q4, q5, q6, q7, q8, q9⟩ := ten_cells HX2.out; clear hb) | (go_at_call 6; refine (awake20_calls _).mono ?_; rintro e' w1 ⟨rfl, hb⟩; have HB1 := Aside0.mk (below_step HB0.out hb); have HX1 := Aside0.mk (blk_below HX0.out hb); obtain ⟨p0, p1, p2, p3, p4, p5, p6, p7, p8, p9⟩ := ten_cells HX1.out; clear hb))
        go_ret
        exact ⟨by first | rfl | simp, HB2.out⟩
      · have he' : decide (a.err < 0) = false := decide_eq_false he0
        by_cases he1 : 2147483647 < a.err
        · have he'' : decide (2147483647 < a.err) = true := decide_eq_true he1
          clear he0 he1
          clear h hw0 hC1 hc1 hm1 hw1
          go_enter Try.func5, Try.ntmps5
          go_upto_region 1 with (fail)
          generalize W.alloc (.cells (rpV a A1 n1 A2 n2 A3 n3 A4 n4 A5 n5) 30) = w0 at HX0 HB0 ⊢
          generalize hgx : W.heap.size = gx at HX0 ⊢
          go_wp2_with (first | (go_at_call 7; have hq := HB1.out; clear hq; refine (light20_calls a A1 n1 A2 n2 A3 n3 A4 n4 A5 n5 _ (HC.out.below HB1.out)).mono ?_; rw [HLA.out]; rintro e' w2 ⟨rfl, hb⟩; have HB2 := Aside0.mk (below_step HB1.out hb); have HX2 := Aside0.mk (blk_below HX1.out hb); obtain ⟨q0, q1, q2, q3, q4, q5, q6, q7, q8, q9⟩ := ten_cells HX2.out; clear hb) | (go_at_call 6; refine (awake20_calls _).mono ?_; rintro e' w1 ⟨rfl, hb⟩; have HB1 := Aside0.mk (below_step HB0.out hb); have HX1 := Aside0.mk (blk_below HX0.out hb); obtain ⟨p0, p1, p2, p3, p4, p5, p6, p7, p8, p9⟩ := ten_cells HX1.out; clear hb))
          go_ret
          exact ⟨by first | rfl | simp, HB2.out⟩
        · have he'' : decide (2147483647 < a.err) = false := decide_eq_false he1
          have HOE := Aside0.mk (ofRp_enc HSM.out HIA.out (by omega) (by omega))
          have HFE := Aside0.mk (encRp_fine a HSM.out HIA.out)
          clear he0 he1
          clear h hw0 hC1 hc1 hm1 hw1
          rcases ofRp_cases HFB.out with hy | ⟨y, hy, hyi, hyb⟩
          · have HOB := Aside0.mk hy
            clear hy
            go_enter Try.func5, Try.ntmps5
            go_upto_region 1 with (fail)
            generalize W.alloc (.cells (rpV a A1 n1 A2 n2 A3 n3 A4 n4 A5 n5) 30) = w0 at HX0 HB0 ⊢
            generalize hgx : W.heap.size = gx at HX0 ⊢
            go_upto_region 5 with (first | (go_at_call 7; have hq := HB1.out; clear hq; refine (light20_calls a A1 n1 A2 n2 A3 n3 A4 n4 A5 n5 _ (HC.out.below HB1.out)).mono ?_; rw [HLA.out]; rintro e' w2 ⟨rfl, hb⟩; have HB2 := Aside0.mk (below_step HB1.out hb); have HX2 := Aside0.mk (blk_below HX1.out hb); obtain ⟨q0, q1, q2, q3, q4, q5, q6, q7, q8, q9⟩ := ten_cells HX2.out; clear hb) | (go_at_call 6; refine (awake20_calls _).mono ?_; rintro e' w1 ⟨rfl, hb⟩; have HB1 := Aside0.mk (below_step HB0.out hb); have HX1 := Aside0.mk (blk_below HX0.out hb); obtain ⟨p0, p1, p2, p3, p4, p5, p6, p7, p8, p9⟩ := ten_cells HX1.out; clear hb))
            clear p0 p1 p2 p3 p4 p5 p6 p7 p8 p9
            go_upto_region 6 with (first | (go_at_call 11; have hq := HP3.out; clear hq; refine (of20_calls P1 p1 (encRp a) _ HP3.out HFE.out).mono ?_; rw [HOE.out]; rintro e' w4 ⟨D1, d1, D2, d2, D3, d3, D4, d4, D5, d5, rfl, hr, hb⟩; have HD4 := Aside0.mk hr; have HX4 := Aside0.mk (blk_below HX3.out hb); have HB4 := Aside0.mk (below_step HB3.out hb); clear hr hb) | (go_at_call 13; have hq := HB2.out; clear hq; refine (put20_calls a A1 n1 A2 n2 A3 n3 A4 n4 A5 n5 _ (HC.out.below HB2.out) HIA.out HLN.out).mono ?_; rintro e' w3 ⟨v3, rfl, hr, hb⟩; obtain ⟨P1, p1, hv3, _, hCp⟩ := Kd.R_reads hr; subst hv3; have HP3 := Aside0.mk hCp; have HB3 := Aside0.mk (below_step HB2.out hb); have HX3 := Aside0.mk (blk_below HX2.out hb); clear hr hb hCp))
            clear q0 q1 q2 q3 q4 q5 q6 q7 q8 q9
            have HM5 := Aside0.mk (blk_new w4 (.cells (rpV a D1 d1 D2 d2 D3 d3 D4 d4 D5 d5) 30))
            have HX5 := Aside0.mk (blk_alloc HX4.out (.cells (rpV a D1 d1 D2 d2 D3 d3 D4 d4 D5 d5) 30))
            have HB5 := Aside0.mk (below_alloc HB4.out (.cells (rpV a D1 d1 D2 d2 D3 d3 D4 d4 D5 d5) 30))
            have HD5 := Aside0.mk (HD4.out.below (below_alloc (Below.refl _ _) (.cells (rpV a D1 d1 D2 d2 D3 d3 D4 d4 D5 d5) 30)))
            generalize w4.alloc (.cells (rpV a D1 d1 D2 d2 D3 d3 D4 d4 D5 d5) 30) = w5 at HM5 HX5 HB5 HD5 ⊢
            generalize w4.heap.size = gm at HM5 ⊢
            obtain ⟨x0, x1, x2, x3, x4, x5, x6, x7, x8, x9⟩ := ten_cells HX5.out
            obtain ⟨y0, y1, y2, y3, y4, y5, y6, y7, y8, y9⟩ := ten_cells HM5.out
            go_upto_region 8 with (go_at_call 9; refine (rsame20_calls a a D1 d1 D2 d2 D3 d3 D4 d4 D5 d5 A1 n1 A2 n2 A3 n3 A4 n4 A5 n5 true _ HD5.out (HC.out.below HB5.out)).mono ?_; rw [rsameRp_true, sameRp_me]; rintro e' w6 ⟨rfl, hb⟩; have HB6 := Aside0.mk (below_step HB5.out hb); clear hb)
            clear x0 x1 x2 x3 x4 x5 x6 x7 x8 x9 y0 y1 y2 y3 y4 y5 y6 y7 y8 y9
            go_upto_region 9 with (go_at_call 11; refine (of20_calls Ab cb b _ (Kd.C_below HCb.out HB6.out) HFB.out).mono ?_; rw [HOB.out]; rintro e' w7 ⟨E1, e1, E2, e2, E3, e3, E4, e4, E5, e5, rfl, hr, hb⟩; have HE7 := Aside0.mk hr; have HB7 := Aside0.mk (below_step HB6.out hb); clear hr hb)
            have HB8 := Aside0.mk (below_alloc HB7.out (.cells (rpV noRp E1 e1 E2 e2 E3 e3 E4 e4 E5 e5) 30))
            generalize w7.alloc (.cells (rpV noRp E1 e1 E2 e2 E3 e3 E4 e4 E5 e5) 30) = w8 at HB8 ⊢
            refine region_reach (by kernel_rfl) (by kernel_rfl) ?_
            repeat (go_big_quiet_step (fail))
            refine wpQuiet_nil ?_
            rintro _ ⟨⟨w9, hb9⟩, rfl⟩
            have HB9 := Aside0.mk (below_step HB8.out hb9)
            clear hb9
            go_wp2
            go_ret
            subst hgx
            exact ⟨by first | rfl | simp, HB9.out⟩
          · have HOB := Aside0.mk hy
            have HIY := Aside0.mk hyi
            have HLY := Aside0.mk (show (encRp y).length ≤ 1000000 by rw [hyb]; exact HFB.out.2.1)
            have HBY := Aside0.mk hyb
            clear hy hyi hyb
            go_enter Try.func5, Try.ntmps5
            go_upto_region 1 with (fail)
            generalize W.alloc (.cells (rpV a A1 n1 A2 n2 A3 n3 A4 n4 A5 n5) 30) = w0 at HX0 HB0 ⊢
            generalize hgx : W.heap.size = gx at HX0 ⊢
            go_upto_region 5 with (first | (go_at_call 7; have hq := HB1.out; clear hq; refine (light20_calls a A1 n1 A2 n2 A3 n3 A4 n4 A5 n5 _ (HC.out.below HB1.out)).mono ?_; rw [HLA.out]; rintro e' w2 ⟨rfl, hb⟩; have HB2 := Aside0.mk (below_step HB1.out hb); have HX2 := Aside0.mk (blk_below HX1.out hb); obtain ⟨q0, q1, q2, q3, q4, q5, q6, q7, q8, q9⟩ := ten_cells HX2.out; clear hb) | (go_at_call 6; refine (awake20_calls _).mono ?_; rintro e' w1 ⟨rfl, hb⟩; have HB1 := Aside0.mk (below_step HB0.out hb); have HX1 := Aside0.mk (blk_below HX0.out hb); obtain ⟨p0, p1, p2, p3, p4, p5, p6, p7, p8, p9⟩ := ten_cells HX1.out; clear hb))
            clear p0 p1 p2 p3 p4 p5 p6 p7 p8 p9
            go_upto_region 6 with (first | (go_at_call 11; have hq := HP3.out; clear hq; refine (of20_calls P1 p1 (encRp a) _ HP3.out HFE.out).mono ?_; rw [HOE.out]; rintro e' w4 ⟨D1, d1, D2, d2, D3, d3, D4, d4, D5, d5, rfl, hr, hb⟩; have HD4 := Aside0.mk hr; have HX4 := Aside0.mk (blk_below HX3.out hb); have HB4 := Aside0.mk (below_step HB3.out hb); clear hr hb) | (go_at_call 13; have hq := HB2.out; clear hq; refine (put20_calls a A1 n1 A2 n2 A3 n3 A4 n4 A5 n5 _ (HC.out.below HB2.out) HIA.out HLN.out).mono ?_; rintro e' w3 ⟨v3, rfl, hr, hb⟩; obtain ⟨P1, p1, hv3, _, hCp⟩ := Kd.R_reads hr; subst hv3; have HP3 := Aside0.mk hCp; have HB3 := Aside0.mk (below_step HB2.out hb); have HX3 := Aside0.mk (blk_below HX2.out hb); clear hr hb hCp))
            clear q0 q1 q2 q3 q4 q5 q6 q7 q8 q9
            have HM5 := Aside0.mk (blk_new w4 (.cells (rpV a D1 d1 D2 d2 D3 d3 D4 d4 D5 d5) 30))
            have HX5 := Aside0.mk (blk_alloc HX4.out (.cells (rpV a D1 d1 D2 d2 D3 d3 D4 d4 D5 d5) 30))
            have HB5 := Aside0.mk (below_alloc HB4.out (.cells (rpV a D1 d1 D2 d2 D3 d3 D4 d4 D5 d5) 30))
            have HD5 := Aside0.mk (HD4.out.below (below_alloc (Below.refl _ _) (.cells (rpV a D1 d1 D2 d2 D3 d3 D4 d4 D5 d5) 30)))
            generalize w4.alloc (.cells (rpV a D1 d1 D2 d2 D3 d3 D4 d4 D5 d5) 30) = w5 at HM5 HX5 HB5 HD5 ⊢
            generalize w4.heap.size = gm at HM5 ⊢
            obtain ⟨x0, x1, x2, x3, x4, x5, x6, x7, x8, x9⟩ := ten_cells HX5.out
            obtain ⟨y0, y1, y2, y3, y4, y5, y6, y7, y8, y9⟩ := ten_cells HM5.out
            go_upto_region 8 with (go_at_call 9; refine (rsame20_calls a a D1 d1 D2 d2 D3 d3 D4 d4 D5 d5 A1 n1 A2 n2 A3 n3 A4 n4 A5 n5 true _ HD5.out (HC.out.below HB5.out)).mono ?_; rw [rsameRp_true, sameRp_me]; rintro e' w6 ⟨rfl, hb⟩; have HB6 := Aside0.mk (below_step HB5.out hb); clear hb)
            clear x0 x1 x2 x3 x4 x5 x6 x7 x8 x9 y0 y1 y2 y3 y4 y5 y6 y7 y8 y9
            go_upto_region 9 with (go_at_call 11; refine (of20_calls Ab cb b _ (Kd.C_below HCb.out HB6.out) HFB.out).mono ?_; rw [HOB.out]; rintro e' w7 ⟨E1, e1, E2, e2, E3, e3, E4, e4, E5, e5, rfl, hr, hb⟩; have HE7 := Aside0.mk hr; have HB7 := Aside0.mk (below_step HB6.out hb); clear hr hb)
            have HB8 := Aside0.mk (below_alloc HB7.out (.cells (rpV y E1 e1 E2 e2 E3 e3 E4 e4 E5 e5) 30))
            have HJ8 := Aside0.mk (blk_new w7 (.cells (rpV y E1 e1 E2 e2 E3 e3 E4 e4 E5 e5) 30))
            have HE8 := Aside0.mk (HE7.out.below (below_alloc (Below.refl _ _) (.cells (rpV y E1 e1 E2 e2 E3 e3 E4 e4 E5 e5) 30)))
            generalize w7.alloc (.cells (rpV y E1 e1 E2 e2 E3 e3 E4 e4 E5 e5) 30) = w8 at HB8 HJ8 HE8 ⊢
            generalize w7.heap.size = gj at HJ8 ⊢
            have HBd := Aside0.mk (below_drew HB8.out)
            have HJd := Aside0.mk (blk_drew HJ8.out)
            have HE9 := Aside0.mk (HE8.out.below (below_drew (Below.refl w8.heap.size w8)))
            have tjd := ten_cells HJd.out
            have hs2d := Kd.C_string (P := Try.prog) (A := Ab) (c := cb) Try.underlying35 Try.underlying5 Try.underlying9 (Kd.C_below HCb.out HBd.out)
            go_region_held (fun w' => (World.cell? w' ⟨gj, 0, none⟩ = some (.int .i64 y.err) ∧ World.cell? w' ⟨gj, 1, none⟩ = some (.bool y.is) ∧ World.cell? w' ⟨gj, 2, none⟩ = some (.string y.val) ∧ World.cell? w' ⟨gj, 3, none⟩ = some (.int .u64 y.id) ∧ World.cell? w' ⟨gj, 4, none⟩ = some (.int .i64 y.n) ∧ World.cell? w' ⟨gj, 5, none⟩ = some (.slice E1 y.es.length e1) ∧ World.cell? w' ⟨gj, 6, none⟩ = some (.slice E2 y.chs.length e2) ∧ World.cell? w' ⟨gj, 7, none⟩ = some (.slice E3 y.cls.length e3) ∧ World.cell? w' ⟨gj, 8, none⟩ = some (.slice E4 y.coms.length e4) ∧ World.cell? w' ⟨gj, 9, none⟩ = some (.slice E5 y.refs.length e5)) ∧ (convert 35 9 (.slice Ab b.length cb)).run Try.prog w' = .ok (.string (strOfNums b)) w') (first | exact ⟨tjd, hs2d⟩ | exact ⟨tj9, hs29⟩ | go_keep) (first | (go_at_call 13; refine (put20_calls y E1 e1 E2 e2 E3 e3 E4 e4 E5 e5 _ HE9.out HIY.out HLY.out).mono ?_; rw [HBY.out]; rintro e' w9 ⟨v9, rfl, hr, hb⟩; obtain ⟨P2, p2, hv9, _, hCp⟩ := Kd.R_reads hr; subst hv9; have HB9 := Aside0.mk (below_step HBd.out hb); have HJ9 := Aside0.mk (blk_below HJd.out hb); have tj9 := ten_cells HJ9.out; have hs19 := Kd.C_string (P := Try.prog) (A := P2) (c := p2) Try.underlying35 Try.underlying5 Try.underlying9 hCp; have hs29 := Kd.C_string (P := Try.prog) (A := Ab) (c := cb) Try.underlying35 Try.underlying5 Try.underlying9 (Kd.C_below HCb.out HB9.out); clear hr hb hCp))
            all_goals (
              go_wp2
              go_ret
              subst hgx
              exact ⟨by first | rfl | simp, HB9.out⟩)
end Go.Proofs.Ytcegkljkmnpkaaa.Sep
