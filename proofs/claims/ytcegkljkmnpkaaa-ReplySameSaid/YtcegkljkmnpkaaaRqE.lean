/- The walks of law20's Light and awake. Printed by gen10.py. Conditions: the bounds of the statements. · An argument that is an answer. Conditions: none. · The walk of the law ReplySame. Printed by gen12.py. Conditions: none beyond the statement's own. -/
import Derived.Test.YtcegkljkmnpkaaaRqD
namespace Go.Proofs.Ytcegkljkmnpkaaa.Sep
set_option linter.unusedSimpArgs false
set_option linter.unusedVariables false
open Go.RowKit Go.Proofs.Ytcegkljkmnpkaaa.PCore Go.Proofs.Ytcegkljkmnpkaaa.Plain Go.Proofs.YtcegkljkmnpkaaaW.PrintWords Go.Proofs.YtcegkljkmnpkaaaW.PrintLast Go.Proofs.YtcegkljkmnpkaaaW.PrintMore
open Go.Proofs.Ytcegkljkmnpkaaa.PDat (S53 S47 S57 S59 S62 k53 k47 k57 k59 k62 rd_T47 at_T47)
def okCh (x : Change) : Bool := decide (x.f0.size ≤ 60) && (decide (x.f2.size ≤ 250) && decide (x.f4.size ≤ 250))
/-- Whether an answer is small. -/
def lightRp (r : Rp) : Bool := r.coms.all lightCo && (r.chs.all okCh && (decide (r.val.size ≤ 250) && (decide (r.coms.length ≤ 20) && (decide (r.chs.length ≤ 30) && (lightEntry r.es && (lightClash r.cls && lightRef r.refs))))))
theorem all_take {α : Type} (f : α → Bool) (l : List α) (i : Nat) (h : i < l.length) (ha : (l.take i).all f = true) (hf : f l[i] = true) : (l.take (i + 1)).all f = true := by
  rw [take_one l i h, List.all_append, ha]
  simp [hf]
theorem all_not {α : Type} (f : α → Bool) (l : List α) (i : Nat) (h : i < l.length) (hf : f l[i] = false) : l.all f = false := by
  rw [← Bool.not_eq_true, List.all_eq_true]
  intro ha
  rw [ha _ (List.getElem_mem h)] at hf
  cases hf
set_option maxHeartbeats 64000000 in
set_option maxRecDepth 100000 in
theorem light20_calls (r : Rp) (A1 : Option Addr) (n1 : Nat) (A2 : Option Addr) (n2 : Nat) (A3 : Option Addr) (n3 : Nat) (A4 : Option Addr) (n4 : Nat) (A5 : Option Addr) (n5 : Nat) (W : World) (h : RpC W r A1 n1 A2 n2 A3 n3 A4 n4 A5 n5) :
    Calls Try.prog 7 #[.agg (rpV r A1 n1 A2 n2 A3 n3 A4 n4 A5 n5)] W fun e W1 => e = .returned (.bool (lightRp r)) ∧ Below W.heap.size W W1 := by
  have huR := Try.underlying30
  have huX := Try.underlying44
  have huC := Try.underlying47
  have HC := Aside0.mk h
  have HM4 := Aside0.mk (Kd.C_max h.c4)
  have HM2 := Aside0.mk (Kd.C_max h.c2)
  have HX0 := Aside0.mk (blk_new W (.cells (rpV r A1 n1 A2 n2 A3 n3 A4 n4 A5 n5) 30))
  have HB0 := Aside0.mk (below_alloc (Below.refl W.heap.size W) (.cells (rpV r A1 n1 A2 n2 A3 n3 A4 n4 A5 n5) 30))
  clear h
  go_enter Try.func7, Try.ntmps7
  go_upto_region 1 with (fail)
  generalize W.alloc (.cells (rpV r A1 n1 A2 n2 A3 n3 A4 n4 A5 n5) 30) = w0 at HX0 HB0 ⊢
  generalize hgx : W.heap.size = gx at HX0 ⊢
  obtain ⟨x0, x1, x2, x3, x4, x5, x6, x7, x8, x9⟩ := ten_cells HX0.out
  go_wp2
  clear x0 x1 x2 x3 x4 x5 x6 x7 x8 x9
  go_loopg [10] r.coms.length (fun kq v10 w' => ∃ i : Nat, v10 = .int .i64 (i : Int) ∧ Aside0 (i ≤ r.coms.length ∧ kq = r.coms.length - i) ∧ Aside0 ((r.coms.take i).all lightCo = true) ∧ Aside0 (Below w0.heap.size w0 w'))
  case atStart => exact ⟨0, rfl, ⟨by omega, by omega⟩, ⟨rfl⟩, ⟨Below.refl _ _⟩⟩
  case round =>
    obtain ⟨i, rfl, HI, HT, HB⟩ := hrel
    by_cases hlt : i < r.coms.length
    · obtain ⟨ad, C1, k1, hA, k0', q1, q2, q3, q4, hP, hPn⟩ := at_Com (HC.out.below (below_step HB0.out HB.out)).c4 i hlt
      subst hA
      have hx := co_at (l := r.coms) i hlt
      have HON := Aside0.mk (all_take lightCo r.coms i hlt HT.out)
      have HOF := Aside0.mk (all_not lightCo r.coms i hlt)
      rw [← hx] at HON HOF
      generalize r.coms.getD i zeroCom = x at k0' q1 q2 q3 q4 hP hPn HON HOF
      clear hx
      have HP := Aside0.mk (And.intro hP hPn)
      have hlt' : (i : Int) < (r.coms.length : Int) := by omega
      obtain ⟨i1, hi1⟩ : ∃ z, z = i + 1 := ⟨_, rfl⟩
      have HWI := Aside0.mk (show wrap64 ((i : Int) + 1) = (i1 : Int) by have := HM4.out; unfold wrap64; omega)
      have HI1 := Aside0.mk (show i1 = i + 1 ∧ i1 ≤ r.coms.length by omega)
      have HX1 := Aside0.mk (blk_new wr (.cells (coV x C1 k1) 44))
      have HB1 := Aside0.mk (below_alloc HB.out (.cells (coV x C1 k1) 44))
      have HP1 := Aside0.mk (Kd.C_below HP.out.1 (below_alloc (Below.refl wr.heap.size wr) (.cells (coV x C1 k1) 44)))
      clear hP hPn hi1 hlt
      go_upto_region 4 with (fail)
      clear k0' q1 q2 q3 q4
      generalize wr.alloc (.cells (coV x C1 k1) 44) = w1 at HX1 HB1 HP1 ⊢
      generalize wr.heap.size = gy at HX1 ⊢
      obtain ⟨y0, y1, y2, y3, y4⟩ := five_cells HX1.out
      cases hs : lightCo x with
      | true =>
        have HS := Aside0.mk hs
        have HTN := Aside0.mk (HON.out hs)
        clear hs
        go_wp2_with (go_at_call 15; refine (light14_calls C1 k1 x _ HP1.out HP.out.2).mono ?_; rw [HS.out]; rintro e w4 ⟨rfl, hb⟩; have HB4 := Aside0.mk (below_step HB1.out hb); clear hb)
        go_roundg (r.coms.length - i1)
        case measure => have := HI.out; have := HI1.out; omega
        case rel =>
          refine ⟨i1, ?_, ⟨?_⟩, ⟨?_⟩, HB4⟩
          · first | rfl | (rw [HWI.out]; done) | simp
          · exact ⟨HI1.out.2, rfl⟩
          · rw [HI1.out.1]; exact HTN.out
      | false =>
        have HS := Aside0.mk hs
        have HR := Aside0.mk (show lightRp r = false by simp [lightRp, HOF.out hs])
        clear hs
        go_wp2_with (go_at_call 15; refine (light14_calls C1 k1 x _ HP1.out HP.out.2).mono ?_; rw [HS.out]; rintro e w4 ⟨rfl, hb⟩; have HB4 := Aside0.mk (below_step HB1.out hb); clear hb)
        go_ret
        rw [HR.out]
        exact ⟨rfl, hgx ▸ below_step HB0.out HB4.out⟩
    · have hI : i = r.coms.length := by have := HI.out; omega
      have hlt' : ¬ (i : Int) < (r.coms.length : Int) := by omega
      have ht := HT.out
      rw [hI, List.take_length] at ht
      have HCA := Aside0.mk ht
      have HXw := Aside0.mk (blk_below HX0.out HB.out)
      have HBw := Aside0.mk (below_step HB0.out HB.out)
      clear ht hI hlt HT
      obtain ⟨x0, x1, x2, x3, x4, x5, x6, x7, x8, x9⟩ := ten_cells HXw.out
      go_upto_region 8 with (fail)
      clear x0 x1 x2 x3 x4 x5 x6 x7 x8 x9 hlt'
      generalize wr = w5 at HXw HBw HB ⊢
      go_loopg [21] r.chs.length (fun kq v21 w' => ∃ i : Nat, v21 = .int .i64 (i : Int) ∧ Aside0 (i ≤ r.chs.length ∧ kq = r.chs.length - i) ∧ Aside0 ((r.chs.take i).all okCh = true) ∧ Aside0 (Below w5.heap.size w5 w'))
      case atStart => exact ⟨0, rfl, ⟨by omega, by omega⟩, ⟨rfl⟩, ⟨Below.refl _ _⟩⟩
      case round =>
        obtain ⟨i, rfl, HI, HT, HB2⟩ := hrel
        by_cases hlt : i < r.chs.length
        · obtain ⟨ad, hA, h0, h1, h2, h3, h4⟩ := at_T47 (HC.out.below (below_step HBw.out HB2.out)).c2 (i : Int) (by omega) (by omega)
          subst hA
          simp only [Int.toNat_natCast] at h0 h1 h2 h3 h4
          have hx := ch_at (l := r.chs) i hlt
          have HON := Aside0.mk (all_take okCh r.chs i hlt HT.out)
          have HOF := Aside0.mk (all_not okCh r.chs i hlt)
          rw [← hx] at HON HOF
          generalize rd_T47 r.chs (i : Int) = x at h0 h1 h2 h3 h4 HON HOF
          clear hx
          have hlt' : (i : Int) < (r.chs.length : Int) := by omega
          obtain ⟨i1, hi1⟩ : ∃ z, z = i + 1 := ⟨_, rfl⟩
          have HWI := Aside0.mk (show wrap64 ((i : Int) + 1) = (i1 : Int) by have := HM2.out; unfold wrap64; omega)
          have HI1 := Aside0.mk (show i1 = i + 1 ∧ i1 ≤ r.chs.length by omega)
          have HX1 := Aside0.mk (blk_new wr (.cells #[.string x.f0, .bool x.f1, .string x.f2, .bool x.f3, .string x.f4] 47))
          have HB1 := Aside0.mk (below_alloc HB2.out (.cells #[.string x.f0, .bool x.f1, .string x.f2, .bool x.f3, .string x.f4] 47))
          clear hi1 hlt
          go_upto_region 10 with (fail)
          clear h0 h1 h2 h3 h4
          generalize wr.alloc (.cells #[.string x.f0, .bool x.f1, .string x.f2, .bool x.f3, .string x.f4] 47) = w1 at HX1 HB1 ⊢
          generalize wr.heap.size = gy at HX1 ⊢
          obtain ⟨y0, y1, y2, y3, y4⟩ := five_cells HX1.out
          by_cases c0 : 60 < x.f0.size
          · have d0 : decide ((60 : Int) < (x.f0.size : Int)) = true := decide_eq_true (by omega)
            have e0 : decide (60 < x.f0.size) = true := decide_eq_true c0
            have HR := Aside0.mk (show lightRp r = false by
              have h := HOF.out (by unfold okCh; rw [decide_eq_false (show ¬ x.f0.size ≤ 60 by omega)]; simp)
              simp [lightRp, h])
            clear c0
            go_wp2
            go_ret
            rw [HR.out]
            exact ⟨rfl, hgx ▸ below_step HBw.out HB1.out⟩
          · have d0 : decide ((60 : Int) < (x.f0.size : Int)) = false := decide_eq_false (by omega)
            have e0 : decide (60 < x.f0.size) = false := decide_eq_false c0
            by_cases c1 : 250 < x.f2.size
            · have d1 : decide ((250 : Int) < (x.f2.size : Int)) = true := decide_eq_true (by omega)
              have e1 : decide (250 < x.f2.size) = true := decide_eq_true c1
              have HR := Aside0.mk (show lightRp r = false by
                have h := HOF.out (by unfold okCh; rw [decide_eq_false (show ¬ x.f2.size ≤ 250 by omega)]; simp)
                simp [lightRp, h])
              clear c0 c1
              go_wp2
              go_ret
              rw [HR.out]
              exact ⟨rfl, hgx ▸ below_step HBw.out HB1.out⟩
            · have d1 : decide ((250 : Int) < (x.f2.size : Int)) = false := decide_eq_false (by omega)
              have e1 : decide (250 < x.f2.size) = false := decide_eq_false c1
              by_cases c2 : 250 < x.f4.size
              · have d2 : decide ((250 : Int) < (x.f4.size : Int)) = true := decide_eq_true (by omega)
                have e2 : decide (250 < x.f4.size) = true := decide_eq_true c2
                have HR := Aside0.mk (show lightRp r = false by
                  have h := HOF.out (by unfold okCh; rw [decide_eq_false (show ¬ x.f4.size ≤ 250 by omega)]; simp)
                  simp [lightRp, h])
                clear c0 c1 c2
                go_wp2
                go_ret
                rw [HR.out]
                exact ⟨rfl, hgx ▸ below_step HBw.out HB1.out⟩
              · have d2 : decide ((250 : Int) < (x.f4.size : Int)) = false := decide_eq_false (by omega)
                have e2 : decide (250 < x.f4.size) = false := decide_eq_false c2
                have HTN := Aside0.mk (HON.out (by unfold okCh; rw [decide_eq_true (show x.f0.size ≤ 60 by omega), decide_eq_true (show x.f2.size ≤ 250 by omega), decide_eq_true (show x.f4.size ≤ 250 by omega)]; rfl))
                clear c0 c1 c2
                go_wp2
                go_roundg (r.chs.length - i1)
                case measure => have := HI.out; have := HI1.out; omega
                case rel =>
                  refine ⟨i1, ?_, ⟨?_⟩, ⟨?_⟩, HB1⟩
                  · first | rfl | (rw [HWI.out]; done) | simp
                  · exact ⟨HI1.out.2, rfl⟩
                  · rw [HI1.out.1]; exact HTN.out
        · have hI : i = r.chs.length := by have := HI.out; omega
          have hlt' : ¬ (i : Int) < (r.chs.length : Int) := by omega
          have ht := HT.out
          rw [hI, List.take_length] at ht
          have HCB := Aside0.mk ht
          have HXv := Aside0.mk (blk_below HXw.out HB2.out)
          have HL0 := Aside0.mk (below_step HBw.out HB2.out)
          clear ht hI hlt HT
          go_upto_region 13 with (fail)
          clear hlt'
          generalize wr = w6 at HXv HL0 HB2 ⊢
          obtain ⟨x0, x1, x2, x3, x4, x5, x6, x7, x8, x9⟩ := ten_cells HXv.out
          have di0 : decide ((r.val.size : Int) ≤ 250) = decide (r.val.size ≤ 250) := decide_eq_decide.2 ⟨fun h => by omega, fun h => by omega⟩
          have di1 : decide ((r.coms.length : Int) ≤ 20) = decide (r.coms.length ≤ 20) := decide_eq_decide.2 ⟨fun h => by omega, fun h => by omega⟩
          have di2 : decide ((r.chs.length : Int) ≤ 30) = decide (r.chs.length ≤ 30) := decide_eq_decide.2 ⟨fun h => by omega, fun h => by omega⟩
          rcases chain6 (decide (r.val.size ≤ 250)) (decide (r.coms.length ≤ 20)) (decide (r.chs.length ≤ 30)) (lightEntry r.es) (lightClash r.cls) (lightRef r.refs) with c1 | ⟨c1, c2⟩ | ⟨c1, c2, c3⟩ | ⟨c1, c2, c3, c4⟩ | ⟨c1, c2, c3, c4, c5⟩ | ⟨c1, c2, c3, c4, c5, c6⟩ | ⟨c1, c2, c3, c4, c5, c6⟩
          · have HR := Aside0.mk (show lightRp r = false by simp [lightRp, HCA.out, HCB.out, c1])
            rw [c1] at di0
            clear di1
            clear di2
            go_wp2
            go_ret
            rw [HR.out]
            exact ⟨by first | rfl | simp, hgx ▸ HL0.out⟩
          · have HR := Aside0.mk (show lightRp r = false by simp [lightRp, HCA.out, HCB.out, c1, c2])
            rw [c1] at di0
            rw [c2] at di1
            clear di2
            go_wp2
            go_ret
            rw [HR.out]
            exact ⟨by first | rfl | simp, hgx ▸ HL0.out⟩
          · have HR := Aside0.mk (show lightRp r = false by simp [lightRp, HCA.out, HCB.out, c1, c2, c3])
            rw [c1] at di0
            rw [c2] at di1
            rw [c3] at di2
            go_wp2
            go_ret
            rw [HR.out]
            exact ⟨by first | rfl | simp, hgx ▸ HL0.out⟩
          · have HR := Aside0.mk (show lightRp r = false by simp [lightRp, HCA.out, HCB.out, c1, c2, c3, c4])
            rw [c1] at di0
            rw [c2] at di1
            rw [c3] at di2
            have HE0 := Aside0.mk c4
            clear c4
            go_wp2_with (first | (go_at_call 16; refine (lightEntry_calls A1 n1 r.es _ (HC.out.below HL0.out).c1 HC.out.m1).mono ?_; rw [HE0.out]; rintro e wl1 ⟨rfl, hb⟩; have HL1 := Aside0.mk (below_step HL0.out hb); have HV1 := Aside0.mk (blk_below HXv.out hb); obtain ⟨z0_0, z0_1, z0_2, z0_3, z0_4, z0_5, z0_6, z0_7, z0_8, z0_9⟩ := ten_cells HV1.out; clear hb))
            go_ret
            rw [HR.out]
            exact ⟨by first | rfl | simp, hgx ▸ HL1.out⟩
          · have HR := Aside0.mk (show lightRp r = false by simp [lightRp, HCA.out, HCB.out, c1, c2, c3, c4, c5])
            rw [c1] at di0
            rw [c2] at di1
            rw [c3] at di2
            have HE0 := Aside0.mk c4
            have HE1 := Aside0.mk c5
            clear c4 c5
            go_wp2_with (first | (go_at_call 16; refine (lightEntry_calls A1 n1 r.es _ (HC.out.below HL0.out).c1 HC.out.m1).mono ?_; rw [HE0.out]; rintro e wl1 ⟨rfl, hb⟩; have HL1 := Aside0.mk (below_step HL0.out hb); have HV1 := Aside0.mk (blk_below HXv.out hb); obtain ⟨z0_0, z0_1, z0_2, z0_3, z0_4, z0_5, z0_6, z0_7, z0_8, z0_9⟩ := ten_cells HV1.out; clear hb) | (go_at_call 17; refine (lightClash_calls A3 n3 r.cls _ (HC.out.below HL1.out).c3 HC.out.m3).mono ?_; rw [HE1.out]; rintro e wl2 ⟨rfl, hb⟩; have HL2 := Aside0.mk (below_step HL1.out hb); have HV2 := Aside0.mk (blk_below HV1.out hb); obtain ⟨z1_0, z1_1, z1_2, z1_3, z1_4, z1_5, z1_6, z1_7, z1_8, z1_9⟩ := ten_cells HV2.out; clear hb))
            go_ret
            rw [HR.out]
            exact ⟨by first | rfl | simp, hgx ▸ HL2.out⟩
          · have HR := Aside0.mk (show lightRp r = false by simp [lightRp, HCA.out, HCB.out, c1, c2, c3, c4, c5, c6])
            rw [c1] at di0
            rw [c2] at di1
            rw [c3] at di2
            have HE0 := Aside0.mk c4
            have HE1 := Aside0.mk c5
            have HE2 := Aside0.mk c6
            clear c4 c5 c6
            go_wp2_with (first | (go_at_call 16; refine (lightEntry_calls A1 n1 r.es _ (HC.out.below HL0.out).c1 HC.out.m1).mono ?_; rw [HE0.out]; rintro e wl1 ⟨rfl, hb⟩; have HL1 := Aside0.mk (below_step HL0.out hb); have HV1 := Aside0.mk (blk_below HXv.out hb); obtain ⟨z0_0, z0_1, z0_2, z0_3, z0_4, z0_5, z0_6, z0_7, z0_8, z0_9⟩ := ten_cells HV1.out; clear hb) | (go_at_call 17; refine (lightClash_calls A3 n3 r.cls _ (HC.out.below HL1.out).c3 HC.out.m3).mono ?_; rw [HE1.out]; rintro e wl2 ⟨rfl, hb⟩; have HL2 := Aside0.mk (below_step HL1.out hb); have HV2 := Aside0.mk (blk_below HV1.out hb); obtain ⟨z1_0, z1_1, z1_2, z1_3, z1_4, z1_5, z1_6, z1_7, z1_8, z1_9⟩ := ten_cells HV2.out; clear hb) | (go_at_call 18; refine (lightRef_calls A5 n5 r.refs _ (HC.out.below HL2.out).c5 HC.out.m5).mono ?_; rw [HE2.out]; rintro e wl3 ⟨rfl, hb⟩; have HL3 := Aside0.mk (below_step HL2.out hb); have HV3 := Aside0.mk (blk_below HV2.out hb); obtain ⟨z2_0, z2_1, z2_2, z2_3, z2_4, z2_5, z2_6, z2_7, z2_8, z2_9⟩ := ten_cells HV3.out; clear hb))
            go_ret
            rw [HR.out]
            exact ⟨by first | rfl | simp, hgx ▸ HL3.out⟩
          · have HR := Aside0.mk (show lightRp r = true by simp [lightRp, HCA.out, HCB.out, c1, c2, c3, c4, c5, c6])
            rw [c1] at di0
            rw [c2] at di1
            rw [c3] at di2
            have HE0 := Aside0.mk c4
            have HE1 := Aside0.mk c5
            have HE2 := Aside0.mk c6
            clear c4 c5 c6
            go_wp2_with (first | (go_at_call 16; refine (lightEntry_calls A1 n1 r.es _ (HC.out.below HL0.out).c1 HC.out.m1).mono ?_; rw [HE0.out]; rintro e wl1 ⟨rfl, hb⟩; have HL1 := Aside0.mk (below_step HL0.out hb); have HV1 := Aside0.mk (blk_below HXv.out hb); obtain ⟨z0_0, z0_1, z0_2, z0_3, z0_4, z0_5, z0_6, z0_7, z0_8, z0_9⟩ := ten_cells HV1.out; clear hb) | (go_at_call 17; refine (lightClash_calls A3 n3 r.cls _ (HC.out.below HL1.out).c3 HC.out.m3).mono ?_; rw [HE1.out]; rintro e wl2 ⟨rfl, hb⟩; have HL2 := Aside0.mk (below_step HL1.out hb); have HV2 := Aside0.mk (blk_below HV1.out hb); obtain ⟨z1_0, z1_1, z1_2, z1_3, z1_4, z1_5, z1_6, z1_7, z1_8, z1_9⟩ := ten_cells HV2.out; clear hb) | (go_at_call 18; refine (lightRef_calls A5 n5 r.refs _ (HC.out.below HL2.out).c5 HC.out.m5).mono ?_; rw [HE2.out]; rintro e wl3 ⟨rfl, hb⟩; have HL3 := Aside0.mk (below_step HL2.out hb); have HV3 := Aside0.mk (blk_below HV2.out hb); obtain ⟨z2_0, z2_1, z2_2, z2_3, z2_4, z2_5, z2_6, z2_7, z2_8, z2_9⟩ := ten_cells HV3.out; clear hb))
            go_ret
            rw [HR.out]
            exact ⟨by first | rfl | simp, hgx ▸ HL3.out⟩
def rA : Rp := ⟨0, false, ⟨#[97]⟩, 7, 0, [], [], [], [], []⟩
def zeroRp : Rp := ⟨0, false, ⟨#[]⟩, 0, 0, [], [], [], [], []⟩
theorem rA_len : (encRp rA).length = 11 := by kernel_rfl
theorem rA_self : sameRp rA rA = true := by simp [sameRp, plainRp, listsRp, oneL_self]
theorem rA_zero : sameRp rA zeroRp = false := by simp [sameRp, plainRp, rA, zeroRp]
theorem rA_in : RpIn rA := ⟨by decide, by decide, by decide, fun c hc => by simp [rA] at hc, fun c hc => by simp [rA] at hc⟩
theorem rA_C (w : World) : RpC w rA none 0 none 0 none 0 none 0 none 0 := ⟨Kd.C_nil _ _, Nat.le_refl _, Kd.C_nil _ _, Nat.le_refl _, Kd.C_nil _ _, Nat.le_refl _, Kd.C_nil _ _, Nat.le_refl _, Kd.C_nil _ _, Nat.le_refl _⟩
theorem zero_C (w : World) : RpC w zeroRp none 0 none 0 none 0 none 0 none 0 := ⟨Kd.C_nil _ _, Nat.le_refl _, Kd.C_nil _ _, Nat.le_refl _, Kd.C_nil _ _, Nat.le_refl _, Kd.C_nil _ _, Nat.le_refl _, Kd.C_nil _ _, Nat.le_refl _⟩
theorem rA_put (w : World) : Calls Try.prog 13 #[.agg #[.int .i64 0, .bool false, .string ⟨#[97]⟩, .int .u64 7, .int .i64 0, .slice none 0 0, .slice none 0 0, .slice none 0 0, .slice none 0 0, .slice none 0 0]] w fun e w' => ∃ A c, e = .returned (.slice A 11 c) ∧ Below w.heap.size w w' :=
  (put20_calls rA none 0 none 0 none 0 none 0 none 0 w (rA_C w) rA_in (by rw [rA_len]; decide)).mono fun e w' ⟨v, he, hr, hb⟩ => by
    obtain ⟨A, c, hv, _, _⟩ := Kd.R_reads hr
    rw [rA_len] at hv
    exact ⟨A, c, by rw [he, hv], hb⟩
theorem rA_same (w : World) : Calls Try.prog 8 #[.agg #[.int .i64 0, .bool false, .string ⟨#[97]⟩, .int .u64 7, .int .i64 0, .slice none 0 0, .slice none 0 0, .slice none 0 0, .slice none 0 0, .slice none 0 0], .agg #[.int .i64 0, .bool false, .string ⟨#[97]⟩, .int .u64 7, .int .i64 0, .slice none 0 0, .slice none 0 0, .slice none 0 0, .slice none 0 0, .slice none 0 0]] w fun e w' => e = .returned (.bool true) ∧ Below w.heap.size w w' := by
  have h := same20_calls rA rA none 0 none 0 none 0 none 0 none 0 none 0 none 0 none 0 none 0 none 0 w (rA_C w) (rA_C w)
  rw [rA_self] at h
  exact h
theorem rA_other (w : World) : Calls Try.prog 8 #[.agg #[.int .i64 0, .bool false, .string ⟨#[97]⟩, .int .u64 7, .int .i64 0, .slice none 0 0, .slice none 0 0, .slice none 0 0, .slice none 0 0, .slice none 0 0], .agg zeroRpC] w fun e w' => e = .returned (.bool false) ∧ Below w.heap.size w w' := by
  have h := same20_calls rA zeroRp none 0 none 0 none 0 none 0 none 0 none 0 none 0 none 0 none 0 none 0 w (rA_C w) (zero_C w)
  rw [rA_zero] at h
  exact h
set_option maxHeartbeats 16000000 in
set_option maxRecDepth 100000 in
theorem awake20_calls (W : World) : Calls Try.prog 6 #[] W fun e W1 => e = .returned (.bool true) ∧ Below W.heap.size W W1 := by
  have huR := Try.underlying30
  have HX0 := Aside0.mk (blk_new W (.cells #[.int .i64 0, .bool false, .string ⟨#[97]⟩, .int .u64 7, .int .i64 0, .slice none 0 0, .slice none 0 0, .slice none 0 0, .slice none 0 0, .slice none 0 0] 30))
  have HB0 := Aside0.mk (below_alloc (Below.refl W.heap.size W) (.cells #[.int .i64 0, .bool false, .string ⟨#[97]⟩, .int .u64 7, .int .i64 0, .slice none 0 0, .slice none 0 0, .slice none 0 0, .slice none 0 0, .slice none 0 0] 30))
  go_enter Try.func6, Try.ntmps6
  go_upto_region 2 with (fail)
  generalize W.alloc (.cells #[.int .i64 0, .bool false, .string ⟨#[97]⟩, .int .u64 7, .int .i64 0, .slice none 0 0, .slice none 0 0, .slice none 0 0, .slice none 0 0, .slice none 0 0] 30) = w0 at HX0 HB0 ⊢
  generalize hgx : W.heap.size = gx at HX0 ⊢
  obtain ⟨x0, x1, x2, x3, x4, x5, x6, x7, x8, x9⟩ := ten_cells HX0.out
  go_wp2_with (first | (go_at_call 13; refine (rA_put _).mono ?_; rintro e w3 ⟨A, c, rfl, hb⟩; have HB3 := Aside0.mk (below_step HB2.out hb); clear hb) | (go_at_call 8; have hq := HB1.out; clear hq; refine (rA_other _).mono ?_; rintro e w2 ⟨rfl, hb⟩; have HB2 := Aside0.mk (below_step HB1.out hb); have HX2 := Aside0.mk (blk_below HX1.out hb); obtain ⟨z0, z1, z2, z3, z4, z5, z6, z7, z8, z9⟩ := ten_cells HX2.out; clear hb) | (go_at_call 8; refine (rA_same _).mono ?_; rintro e w1 ⟨rfl, hb⟩; have HB1 := Aside0.mk (below_step HB0.out hb); have HX1 := Aside0.mk (blk_below HX0.out hb); obtain ⟨y0, y1, y2, y3, y4, y5, y6, y7, y8, y9⟩ := ten_cells HX1.out; clear hb))
  go_ret
  exact ⟨by first | rfl | simp, hgx ▸ HB3.out⟩
end Go.Proofs.Ytcegkljkmnpkaaa.Sep
namespace Go.Proofs.Ytcegkljkmnpkaaa.Sep
set_option linter.unusedSimpArgs false
set_option linter.unusedVariables false
open Go.ChangeShapes Go.WideShapes Go.ChangeAt
open Go.RowKit Go.Proofs.Ytcegkljkmnpkaaa.PCore Go.Proofs.Ytcegkljkmnpkaaa.Plain Go.Proofs.YtcegkljkmnpkaaaW.PrintWords Go.Proofs.YtcegkljkmnpkaaaW.PrintLast Go.Proofs.YtcegkljkmnpkaaaW.PrintMore
open Go.Proofs.Ytcegkljkmnpkaaa.PDat (S53 S47 S57 S59 S62 k53 k47 k57 k59 k62)
/-- What holds of a commit. -/
def okC (x : Com) : Prop := (Lit.int .u64 x.id).wf = true ∧ (x.ps.length ≤ maxLen ∧ ∀ p ∈ x.ps, (Lit.int .u64 p).wf = true) ∧ (Lit.int .u64 x.gen).wf = true ∧ (Lit.int .u64 x.root).wf = true ∧ x.text.size ≤ maxLen
theorem openC {H : Type} {enc : TypeId × Value → H} {W : World} {base : Nat} {spare : Nat → Bool} {held : Bool} : Opens enc Try.prog W base spare held 44 kC okC :=
  ⟨by kernel_rfl, fun fuel cs x h => by
    obtain ⟨xs, n, -, -, hl, hx, hf⟩ := DataW.trod_struct Try.underlying44 h
    have hxs : xs.length = 5 := hx
    have hlen : cs.length = kC.sz := hl.trans (by kernel_rfl)
    obtain ⟨v0, K0, o0⟩ := field_at (o := 0) (d := Kd.int .u64) (Opens.int (by kernel_rfl) Try.underlying23) (i := 0) (by omega) (hf 0 _ rfl)
    obtain ⟨v1, K1, o1⟩ := field_at (o := 1) (d := Kd.slice 23 (Kd.int .u64)) (Opens.slice (by kernel_rfl) Try.underlying42 (Opens.int (by kernel_rfl) Try.underlying23)) (i := 1) (by omega) (hf 1 _ rfl)
    obtain ⟨v2, K2, o2⟩ := field_at (o := 2) (d := Kd.int .u64) (Opens.int (by kernel_rfl) Try.underlying23) (i := 2) (by omega) (hf 2 _ rfl)
    obtain ⟨v3, K3, o3⟩ := field_at (o := 3) (d := Kd.int .u64) (Opens.int (by kernel_rfl) Try.underlying23) (i := 3) (by omega) (hf 3 _ rfl)
    obtain ⟨v4, K4, o4⟩ := field_at (o := 4) (d := Kd.string) (Opens.string (by kernel_rfl) Try.underlying9) (i := 4) (by omega) (hf 4 _ rfl)
    exact ⟨⟨v0, v1, v2, v3, v4⟩, (pair_at (o := 0) K0 (pair_at (o := 1) K1 (pair_at (o := 2) K2 (pair_at (o := 3) K3 (last_at (o := 4) K4 hlen))))), o0, o1, o2, o3, o4⟩⟩
def kRp : Kd Rp := Kd.iso (Kd.pair (Kd.int .i64) (Kd.pair Kd.bool (Kd.pair Kd.string (Kd.pair (Kd.int .u64) (Kd.pair (Kd.int .i64) (Kd.pair (Kd.slice 53 k53) (Kd.pair (Kd.slice 47 k47) (Kd.pair (Kd.slice 59 k59) (Kd.pair (Kd.slice 44 kC) (Kd.slice 62 k62)))))))))) (fun x : Rp => (x.err, x.is, x.val, x.id, x.n, x.es, x.chs, x.cls, x.coms, x.refs))
/-- What holds of an answer that came in. -/
def okRp (x : Rp) : Prop := (Lit.int .i64 x.err).wf = true ∧ True ∧ x.val.size ≤ maxLen ∧ (Lit.int .u64 x.id).wf = true ∧ (Lit.int .i64 x.n).wf = true ∧ (x.es.length ≤ maxLen ∧ ∀ y ∈ x.es, ok53 y) ∧ (x.chs.length ≤ maxLen ∧ ∀ y ∈ x.chs, ok47 y) ∧ (x.cls.length ≤ maxLen ∧ ∀ y ∈ x.cls, ok59 y) ∧ (x.coms.length ≤ maxLen ∧ ∀ y ∈ x.coms, okC y) ∧ (x.refs.length ≤ maxLen ∧ ∀ y ∈ x.refs, ok62 y)
theorem openRp {H : Type} {enc : TypeId × Value → H} {W : World} {base : Nat} {spare : Nat → Bool} {held : Bool} : Opens enc Try.prog W base spare held 30 kRp okRp :=
  ⟨by kernel_rfl, fun fuel cs x h => by
    obtain ⟨xs, n, -, -, hl, hx, hf⟩ := DataW.trod_struct Try.underlying30 h
    have hxs : xs.length = 10 := hx
    have hlen : cs.length = kRp.sz := hl.trans (by kernel_rfl)
    obtain ⟨v0, K0, o0⟩ := field_at (o := 0) (d := (Kd.int .i64)) (Opens.int (by kernel_rfl) Try.underlying22) (i := 0) (by omega) (hf 0 _ rfl)
    obtain ⟨v1, K1, o1⟩ := field_at (o := 1) (d := Kd.bool) (Opens.bool (by kernel_rfl) Try.underlying4) (i := 1) (by omega) (hf 1 _ rfl)
    obtain ⟨v2, K2, o2⟩ := field_at (o := 2) (d := Kd.string) (Opens.string (by kernel_rfl) Try.underlying9) (i := 2) (by omega) (hf 2 _ rfl)
    obtain ⟨v3, K3, o3⟩ := field_at (o := 3) (d := (Kd.int .u64)) (Opens.int (by kernel_rfl) Try.underlying23) (i := 3) (by omega) (hf 3 _ rfl)
    obtain ⟨v4, K4, o4⟩ := field_at (o := 4) (d := (Kd.int .i64)) (Opens.int (by kernel_rfl) Try.underlying3) (i := 4) (by omega) (hf 4 _ rfl)
    obtain ⟨v5, K5, o5⟩ := field_at (o := 5) (d := (Kd.slice 53 k53)) (Opens.slice (by kernel_rfl) Try.underlying24 open53) (i := 5) (by omega) (hf 5 _ rfl)
    obtain ⟨v6, K6, o6⟩ := field_at (o := 6) (d := (Kd.slice 47 k47)) (Opens.slice (by kernel_rfl) Try.underlying25 open47) (i := 6) (by omega) (hf 6 _ rfl)
    obtain ⟨v7, K7, o7⟩ := field_at (o := 7) (d := (Kd.slice 59 k59)) (Opens.slice (by kernel_rfl) Try.underlying26 open59) (i := 7) (by omega) (hf 7 _ rfl)
    obtain ⟨v8, K8, o8⟩ := field_at (o := 8) (d := (Kd.slice 44 kC)) (Opens.slice (by kernel_rfl) Try.underlying27 openC) (i := 8) (by omega) (hf 8 _ rfl)
    obtain ⟨v9, K9, o9⟩ := field_at (o := 9) (d := (Kd.slice 62 k62)) (Opens.slice (by kernel_rfl) Try.underlying28 open62) (i := 9) (by omega) (hf 9 _ rfl)
    exact ⟨⟨v0, v1, v2, v3, v4, v5, v6, v7, v8, v9⟩, (pair_at (o := 0) K0 (pair_at (o := 1) K1 (pair_at (o := 2) K2 (pair_at (o := 3) K3 (pair_at (o := 4) K4 (pair_at (o := 5) K5 (pair_at (o := 6) K6 (pair_at (o := 7) K7 (pair_at (o := 8) K8 (last_at (o := 9) K9 hlen)))))))))), o0, o1, o2, o3, o4, o5, o6, o7, o8, o9⟩⟩
theorem kRp_open {W : World} {x : Rp} {cs : List Value} (h : kRp.K W x cs) : ∃ A1 n1 A2 n2 A3 n3 A4 n4 A5 n5, cs = (rpV x A1 n1 A2 n2 A3 n3 A4 n4 A5 n5).toList ∧ RpC W x A1 n1 A2 n2 A3 n3 A4 n4 A5 n5 := by
  obtain ⟨c0, d0, rfl, h0, c1, d1, rfl, h1, c2, d2, rfl, h2, c3, d3, rfl, h3, c4, d4, rfl, h4, c5, d5, rfl, ⟨A1, n1, h5, m1, C1⟩, c6, d6, rfl, ⟨A2, n2, h6, m2, C2⟩, c7, d7, rfl, ⟨A3, n3, h7, m3, C3⟩, c8, d8, rfl, ⟨A4, n4, h8, m4, C4⟩, ⟨A5, n5, h9, m5, C5⟩⟩ := h
  simp only at h5 h6 h7 h8 h9 m1 m2 m3 m4 m5 C1 C2 C3 C4 C5
  have e0 : c0 = [.int .i64 x.err] := h0
  have e1 : c1 = [.bool x.is] := h1
  have e2 : c2 = [.string x.val] := h2
  have e3 : c3 = [.int .u64 x.id] := h3
  have e4 : c4 = [.int .i64 x.n] := h4
  subst e0 e1 e2 e3 e4 h5 h6 h7 h8 h9
  exact ⟨A1, n1, A2, n2, A3, n3, A4, n4, A5, n5, rfl, C1, m1, C2, m2, C3, m3, C4, m4, C5, m5⟩
theorem i64_wf {n : Int} (h : (Lit.int .i64 n).wf = true) : I64 n := by
  simp [Lit.wf, IntKind.min, IntKind.max, IntKind.signed, IntKind.bits] at h
  unfold I64
  omega
theorem u64_wf {n : Int} (h : (Lit.int .u64 n).wf = true) : U64 n := by
  simp [Lit.wf, IntKind.min, IntKind.max, IntKind.signed, IntKind.bits] at h
  unfold U64
  omega
theorem okRp_in {x : Rp} (h : okRp x) : RpIn x :=
  ⟨u64_wf h.2.2.2.1, i64_wf h.2.2.2.2.1, i64_wf h.1, fun c hc => by
    have h2 := h.2.2.2.2.2.2.2.2.1.2 c hc
    exact ⟨u64_wf h2.1, fun p hp => u64_wf (h2.2.1.2 p hp), u64_wf h2.2.2.1, u64_wf h2.2.2.2.1⟩, fun r hr => u64_wf (h.2.2.2.2.2.2.2.2.2.2 r hr).2.2⟩
end Go.Proofs.Ytcegkljkmnpkaaa.Sep
namespace Go.Proofs.Ytcegkljkmnpkaaa.Sep
set_option linter.unusedSimpArgs false
set_option linter.unusedVariables false
open Go.RowKit Go.Proofs.Ytcegkljkmnpkaaa.PCore Go.Proofs.Ytcegkljkmnpkaaa.Plain Go.Proofs.YtcegkljkmnpkaaaW.PrintWords Go.Proofs.YtcegkljkmnpkaaaW.PrintLast Go.Proofs.YtcegkljkmnpkaaaW.PrintMore
theorem lightRp_coms {r : Rp} (h : lightRp r = true) : r.coms.length ≤ 1000000 := by
  simp only [lightRp, Bool.and_eq_true, decide_eq_true_eq] at h
  exact Nat.le_trans h.2.2.2.1 (by decide)
theorem sameRp_self (a : Rp) : sameRp a a = true := by simp [sameRp, plainRp, listsRp, oneL_self]
set_option maxHeartbeats 64000000 in
set_option maxRecDepth 100000 in
theorem replySame_walk (A1 : Option Addr) (n1 : Nat) (A2 : Option Addr) (n2 : Nat) (A3 : Option Addr) (n3 : Nat) (A4 : Option Addr) (n4 : Nat) (A5 : Option Addr) (n5 : Nat) (a : Rp) (B1 : Option Addr) (m1 : Nat) (B2 : Option Addr) (m2 : Nat) (B3 : Option Addr) (m3 : Nat) (B4 : Option Addr) (m4 : Nat) (B5 : Option Addr) (m5 : Nat) (b : Rp) (W : World) (h : RpC W a A1 n1 A2 n2 A3 n3 A4 n4 A5 n5) (hw0 : okRp a) (h' : RpC W b B1 m1 B2 m2 B3 m3 B4 m4 B5 m5) (hw1 : okRp b) :
    Calls Try.prog 3 #[.agg (rpV a A1 n1 A2 n2 A3 n3 A4 n4 A5 n5), .agg (rpV b B1 m1 B2 m2 B3 m3 B4 m4 B5 m5)] W fun e W1 => e = .returned (.bool true) ∧ Below W.heap.size W W1 := by
  have huR := Try.underlying30
  have HC := Aside0.mk h
  have HD := Aside0.mk h'
  have HX0 := Aside0.mk (blk_alloc (blk_new W (.cells (rpV a A1 n1 A2 n2 A3 n3 A4 n4 A5 n5) 30)) (.cells (rpV b B1 m1 B2 m2 B3 m3 B4 m4 B5 m5) 30))
  have HY0 := Aside0.mk (blk_new (W.alloc (.cells (rpV a A1 n1 A2 n2 A3 n3 A4 n4 A5 n5) 30)) (.cells (rpV b B1 m1 B2 m2 B3 m3 B4 m4 B5 m5) 30))
  have HB0 := Aside0.mk (below_alloc (below_alloc (Below.refl W.heap.size W) (.cells (rpV a A1 n1 A2 n2 A3 n3 A4 n4 A5 n5) 30)) (.cells (rpV b B1 m1 B2 m2 B3 m3 B4 m4 B5 m5) 30))
  clear h h' hw0 hw1
  cases hla : lightRp a with
  | false =>
    have HLA := Aside0.mk hla
    clear hla
    go_enter Try.func3, Try.ntmps3
    go_upto_region 1 with (fail)
    try rw [size_one W (.cells (rpV a A1 n1 A2 n2 A3 n3 A4 n4 A5 n5) 30)]
    generalize (W.alloc (.cells (rpV a A1 n1 A2 n2 A3 n3 A4 n4 A5 n5) 30)).alloc (.cells (rpV b B1 m1 B2 m2 B3 m3 B4 m4 B5 m5) 30) = w0 at HX0 HY0 HB0 ⊢
    generalize (W.alloc (.cells (rpV a A1 n1 A2 n2 A3 n3 A4 n4 A5 n5) 30)).heap.size = gy at HY0 ⊢
    generalize hgx : W.heap.size = gx at HX0 ⊢
    go_wp2_with (first | (go_at_call 7; refine (light20_calls a A1 n1 A2 n2 A3 n3 A4 n4 A5 n5 _ (HC.out.below HB1.out)).mono ?_; rw [HLA.out]; rintro e w2 ⟨rfl, hb⟩; have HB2 := Aside0.mk (below_step HB1.out hb); have HX2 := Aside0.mk (blk_below HX1.out hb); have HY2 := Aside0.mk (blk_below HY1.out hb); obtain ⟨q0, q1, q2, q3, q4, q5, q6, q7, q8, q9⟩ := ten_cells HY2.out; clear hb) | (go_at_call 6; refine (awake20_calls _).mono ?_; rintro e w1 ⟨rfl, hb⟩; have HB1 := Aside0.mk (below_step HB0.out hb); have HX1 := Aside0.mk (blk_below HX0.out hb); have HY1 := Aside0.mk (blk_below HY0.out hb); obtain ⟨p0, p1, p2, p3, p4, p5, p6, p7, p8, p9⟩ := ten_cells HX1.out; clear hb))
    go_ret
    exact ⟨by first | rfl | simp, hgx ▸ HB2.out⟩
  | true =>
    have HLA := Aside0.mk hla
    have HNA := Aside0.mk (lightRp_coms hla)
    clear hla
    cases hlb : lightRp b with
    | false =>
      have HLB := Aside0.mk hlb
      clear hlb
      go_enter Try.func3, Try.ntmps3
      go_upto_region 1 with (fail)
      try rw [size_one W (.cells (rpV a A1 n1 A2 n2 A3 n3 A4 n4 A5 n5) 30)]
      generalize (W.alloc (.cells (rpV a A1 n1 A2 n2 A3 n3 A4 n4 A5 n5) 30)).alloc (.cells (rpV b B1 m1 B2 m2 B3 m3 B4 m4 B5 m5) 30) = w0 at HX0 HY0 HB0 ⊢
      generalize (W.alloc (.cells (rpV a A1 n1 A2 n2 A3 n3 A4 n4 A5 n5) 30)).heap.size = gy at HY0 ⊢
      generalize hgx : W.heap.size = gx at HX0 ⊢
      go_wp2_with (first | (go_at_call 7; have hq := HB2.out; clear hq; refine (light20_calls b B1 m1 B2 m2 B3 m3 B4 m4 B5 m5 _ (HD.out.below HB2.out)).mono ?_; rw [HLB.out]; rintro e w3 ⟨rfl, hb⟩; have HB3 := Aside0.mk (below_step HB2.out hb); have HX3 := Aside0.mk (blk_below HX2.out hb); have HY3 := Aside0.mk (blk_below HY2.out hb); clear hb) | (go_at_call 7; refine (light20_calls a A1 n1 A2 n2 A3 n3 A4 n4 A5 n5 _ (HC.out.below HB1.out)).mono ?_; rw [HLA.out]; rintro e w2 ⟨rfl, hb⟩; have HB2 := Aside0.mk (below_step HB1.out hb); have HX2 := Aside0.mk (blk_below HX1.out hb); have HY2 := Aside0.mk (blk_below HY1.out hb); obtain ⟨q0, q1, q2, q3, q4, q5, q6, q7, q8, q9⟩ := ten_cells HY2.out; clear hb) | (go_at_call 6; refine (awake20_calls _).mono ?_; rintro e w1 ⟨rfl, hb⟩; have HB1 := Aside0.mk (below_step HB0.out hb); have HX1 := Aside0.mk (blk_below HX0.out hb); have HY1 := Aside0.mk (blk_below HY0.out hb); obtain ⟨p0, p1, p2, p3, p4, p5, p6, p7, p8, p9⟩ := ten_cells HX1.out; clear hb))
      go_ret
      exact ⟨by first | rfl | simp, hgx ▸ HB3.out⟩
    | true =>
      have HLB := Aside0.mk hlb
      have HNB := Aside0.mk (lightRp_coms hlb)
      clear hlb
      go_enter Try.func3, Try.ntmps3
      go_upto_region 1 with (fail)
      try rw [size_one W (.cells (rpV a A1 n1 A2 n2 A3 n3 A4 n4 A5 n5) 30)]
      generalize (W.alloc (.cells (rpV a A1 n1 A2 n2 A3 n3 A4 n4 A5 n5) 30)).alloc (.cells (rpV b B1 m1 B2 m2 B3 m3 B4 m4 B5 m5) 30) = w0 at HX0 HY0 HB0 ⊢
      generalize (W.alloc (.cells (rpV a A1 n1 A2 n2 A3 n3 A4 n4 A5 n5) 30)).heap.size = gy at HY0 ⊢
      generalize hgx : W.heap.size = gx at HX0 ⊢
      go_upto_region 5 with (first | (go_at_call 7; have hq := HB2.out; clear hq; refine (light20_calls b B1 m1 B2 m2 B3 m3 B4 m4 B5 m5 _ (HD.out.below HB2.out)).mono ?_; rw [HLB.out]; rintro e w3 ⟨rfl, hb⟩; have HB3 := Aside0.mk (below_step HB2.out hb); have HX3 := Aside0.mk (blk_below HX2.out hb); have HY3 := Aside0.mk (blk_below HY2.out hb); clear hb) | (go_at_call 7; refine (light20_calls a A1 n1 A2 n2 A3 n3 A4 n4 A5 n5 _ (HC.out.below HB1.out)).mono ?_; rw [HLA.out]; rintro e w2 ⟨rfl, hb⟩; have HB2 := Aside0.mk (below_step HB1.out hb); have HX2 := Aside0.mk (blk_below HX1.out hb); have HY2 := Aside0.mk (blk_below HY1.out hb); obtain ⟨q0, q1, q2, q3, q4, q5, q6, q7, q8, q9⟩ := ten_cells HY2.out; clear hb) | (go_at_call 6; refine (awake20_calls _).mono ?_; rintro e w1 ⟨rfl, hb⟩; have HB1 := Aside0.mk (below_step HB0.out hb); have HX1 := Aside0.mk (blk_below HX0.out hb); have HY1 := Aside0.mk (blk_below HY0.out hb); obtain ⟨p0, p1, p2, p3, p4, p5, p6, p7, p8, p9⟩ := ten_cells HX1.out; clear hb))
      clear p0 p1 p2 p3 p4 p5 p6 p7 p8 p9 q0 q1 q2 q3 q4 q5 q6 q7 q8 q9
      obtain ⟨x0, x1, x2, x3, x4, x5, x6, x7, x8, x9⟩ := ten_cells HX3.out
      obtain ⟨y0, y1, y2, y3, y4, y5, y6, y7, y8, y9⟩ := ten_cells HY3.out
      have rx0 := Reach.cell x0
      have rx1 := Reach.cell x1
      have rx2 := Reach.cell x2
      have rx3 := Reach.cell x3
      have rx4 := Reach.cell x4
      have rx5 := Reach.cell x5
      have rx6 := Reach.cell x6
      have rx7 := Reach.cell x7
      have rx8 := Reach.cell x8
      have rx9 := Reach.cell x9
      have ry0 := Reach.cell y0
      have ry1 := Reach.cell y1
      have ry2 := Reach.cell y2
      have ry3 := Reach.cell y3
      have ry4 := Reach.cell y4
      have ry5 := Reach.cell y5
      have ry6 := Reach.cell y6
      have ry7 := Reach.cell y7
      have ry8 := Reach.cell y8
      have ry9 := Reach.cell y9
      have HS1 := Aside0.mk (fun u : Reach w3 => same20_calls a b A1 n1 A2 n2 A3 n3 A4 n4 A5 n5 B1 m1 B2 m2 B3 m3 B4 m4 B5 m5 u.out (HC.out.below (below_step HB3.out u.bel)) (HD.out.below (below_step HB3.out u.bel)))
      have HS2 := Aside0.mk (fun u : Reach w3 => rsame20_calls a b A1 n1 A2 n2 A3 n3 A4 n4 A5 n5 B1 m1 B2 m2 B3 m3 B4 m4 B5 m5 true u.out (HC.out.below (below_step HB3.out u.bel)) (HD.out.below (below_step HB3.out u.bel)))
      have HS3 := Aside0.mk (fun u : Reach w3 => like20_calls a b A1 n1 A2 n2 A3 n3 A4 n4 A5 n5 B1 m1 B2 m2 B3 m3 B4 m4 B5 m5 u.out (HC.out.below (below_step HB3.out u.bel)) (HD.out.below (below_step HB3.out u.bel)) HNA.out HNB.out)
      have HS4 := Aside0.mk (fun u : Reach w3 => rsame20_calls a b A1 n1 A2 n2 A3 n3 A4 n4 A5 n5 B1 m1 B2 m2 B3 m3 B4 m4 B5 m5 false u.out (HC.out.below (below_step HB3.out u.bel)) (HD.out.below (below_step HB3.out u.bel)))
      have HS5 := Aside0.mk (fun u : Reach w3 => same20_calls a a A1 n1 A2 n2 A3 n3 A4 n4 A5 n5 A1 n1 A2 n2 A3 n3 A4 n4 A5 n5 u.out (HC.out.below (below_step HB3.out u.bel)) (HC.out.below (below_step HB3.out u.bel)))
      rw [rsameRp_true] at HS2
      rw [sameRp_self] at HS5
      cases hm1 : sameRp a b <;> cases hm2 : rsameRp false a b
      all_goals (
        rw [hm1] at HS1 HS2
        rw [hm2] at HS3 HS4
        refine region_reach (by kernel_rfl) (by kernel_rfl) ?_
        repeat (go_big_quiet_step ((first | (go_at_call 8; with_reducible exact calls_reach _ (HS1.out _)) | (go_at_call 8; with_reducible exact calls_reach _ (HS5.out _)) | (go_at_call 9; with_reducible exact calls_reach _ (HS2.out _)) | (go_at_call 9; with_reducible exact calls_reach _ (HS4.out _)) | (go_at_call 10; with_reducible exact calls_reach _ (HS3.out _)))))
        refine wpQuiet_nil ?_
        rintro _ ⟨⟨w4, hb4⟩, rfl⟩
        have HB4 := Aside0.mk (below_step HB3.out hb4)
        clear hb4
        go_wp2
        go_ret
        exact ⟨by first | rfl | simp, hgx ▸ HB4.out⟩
      )
end Go.Proofs.Ytcegkljkmnpkaaa.Sep
