/- Clashes told of bytes: the reference's ClashesOf. Printed by gen8.py. Conditions: the bounds of the statements. -/
import Derived.Test.YteaepfdahdenmaaConf7
import Derived.Test.YteaepfdahdenmaaConf3
import Derived.Test.YteaepfdahdenmaaRefReader
import Derived.Deep.RegionHeld3
namespace Go.Proofs.Yteaepfdahdenmaa.Sep
set_option linter.unusedSimpArgs false
set_option linter.unusedVariables false
open Go.RowKit Go.Proofs.Yteaepfdahdenmaa.PCore Go.Proofs.Yteaepfdahdenmaa.Plain Go.Proofs.YteaepfdahdenmaaW.PrintWords Go.Proofs.YteaepfdahdenmaaW.PrintLast Go.Proofs.YteaepfdahdenmaaW.PrintMore
open Go.Proofs.Yteaepfdahdenmaa.PDat (S44 k44 z44 rd_T44 at_T44 S46 k46 z46 rd_T46 at_T46 k46_mkM k44_mkM)
theorem rf_boxK {W w3 : World} {A0 : Option Addr} {c0 : Nat} {b : List Int} (hC0 : Kd.C (Kd.int .u8) W A0 b.length b) (hc0 : b.length ≤ c0) (hF : Fine (b, false)) (hB : Below W.heap.size W w3) :
    RdAt 67 W.heap.size w3.heap.size (w3.alloc (.cells #[.slice A0 b.length c0, .bool false] 67)) (b, false) := by
  refine ⟨A0, c0, blk_new _ _, hB.size, hc0, Kd.C_below (Kd.C_below hC0 hB) (below_alloc (Below.refl _ _) _), fun hp ad e => .inl ?_, hF⟩
  obtain ⟨ad', e', hc⟩ := (show ReadsInt W .u8 A0 b.length b from Kd.reads_of_C (d := 0) hC0).2.2 hp
  rw [e] at e'
  injection e' with e'
  subst e'
  exact World.block_lt_of_cell? _ _ (hc 0 hp)
theorem sd_E2 {T : List Nat} (h : 44 ∉ T) : ∀ q, q ∈ 44 :: (k44).E → q ∉ T := fun q hq => by
  have e : q = 44 := by simpa [k44, Kd.iso, Kd.pair, Kd.int, Kd.scalar, Kd.string, Kd.bool] using hq
  rw [e]
  exact h
/-- The reader behind so many sides; the sides. -/
def stK (s : RS) : Nat → RS
  | 0 => (rdText 40 s).2
  | k + 1 => (rdS (stK s k)).2
def sdK (s : RS) : Nat → List Side
  | 0 => []
  | k + 1 => sdK s k ++ [(rdS (stK s k)).1]
theorem sdK_len (s : RS) : ∀ k, (sdK s k).length = k
  | 0 => rfl
  | k + 1 => by simp [sdK, sdK_len s k]
theorem RdAt.badc {t B g : Nat} {W : World} {s : RS} (h : RdAt t B g W s) : W.cell? ⟨g, 1, none⟩ = some (.bool s.2) := by
  obtain ⟨A, c, hb, _⟩ := h
  exact (blk_cell hb 1).trans rfl
theorem ClSt.below {T : Nat} {W0 : World} {g C : Nat} {w w1 : World} {s : RS} {c : Clash} {v : Value} {xs : List Clash} (h : ClSt T W0 g C w s c v xs) (hb : Below w.heap.size w w1) : ClSt T W0 g C w1 s c v xs :=
  ⟨h.rd.below hb, (Fr.of_below (B := 0) (T := []) hb).blk h.bC (by simp), Kd.R_below h.hR hb, h.le, below_step h.bel hb⟩
theorem ClSt.fr2 {T : Nat} {W0 : World} {g C : Nat} {w w1 : World} {s : RS} {c : Clash} {v : Value} {xs : List Clash} (h : ClSt T W0 g C w s c v xs) (hf : Fr W0.heap.size [44] w w1) (hT : T ∉ [44]) : ClSt T W0 g C w1 s c v xs :=
  ⟨h.rd.fr hf ⟨hT, by decide⟩, hf.blk h.bC (by decide), hf.R h.hR (cl_E (by decide)), h.le, h.bel.trans (hf.below h.bel.size)⟩
theorem sdK3 (s : RS) : rd_T44 (sdK s 3) 0 = (rdS (stK s 0)).1 ∧ rd_T44 (sdK s 3) 1 = (rdS (stK s 1)).1 ∧ rd_T44 (sdK s 3) 2 = (rdS (stK s 2)).1 := by
  simp [sdK, rd_T44]
theorem wrap_up (i : Nat) (h : i ≤ 2000) : IntKind.u64.wrap ((i : Int) + 1) = ((i + 1 : Nat) : Int) := by rw [IntKind.wrap_u64]; omega
set_option maxHeartbeats 16000000 in
set_option maxRecDepth 100000 in
theorem refOf13_calls (A : Option Addr) (n : Nat) (b : List Int) (W : World) (hC : Kd.C (Kd.int .u8) W A b.length b) (hc : b.length ≤ n) (hF : Fine (b, false)) :
    Calls Try.prog 10 #[.slice A b.length n] W fun e W1 => ∃ v, e = .returned (.tuple #[v, .int .i64 (ofK b).2]) ∧ Kd.R k46 46 W1 W.heap.size (fun _ => True) v (ofK b).1 ∧ Below W.heap.size W W1 := by
  have HP := Aside0.mk (rf_boxK hC hc hF (Below.refl _ _))
  have HFF := Aside0.mk hF
  clear hC hc hF
  have huF := Try.underlying46
  have huS := Try.underlying44
  have HNN := Aside0.mk (num_in HFF.out 1000 (by decide))
  have HNI := Aside0.mk (show (rdNum 1000 (b, false)).1 = ((rdNum 1000 (b, false)).1.toNat : Int) by have := HNN.out.1; omega)
  go_enter Try.func10, Try.ntmps10
  go_wp2_with (go_at_call 27; refine (rf_num W.heap.size W.heap.size (b, false) 1000 _ HP.out).mono ?_; rintro e w2 ⟨rfl, hr, hf⟩; have HR2 := Aside0.mk hr; have HB2 := Aside0.mk ((below_alloc (Below.refl W.heap.size W) _).trans (hf.below (below_alloc (Below.refl W.heap.size W) _).size)); clear hr hf)
  go_loopg [6, 7] (rdNum 1000 (b, false)).1.toNat (fun kq v6 v7 w' => ∃ (i j : Nat) (s : RS) (xs : List Clash), v7 = .int .u64 (i : Int) ∧ Aside0 (kq = j ∧ i + j = (rdNum 1000 (b, false)).1.toNat ∧ i = xs.length) ∧ Aside0 (rdCls (rdNum 1000 (b, false)).1.toNat (rdNum 1000 (b, false)).2 = (xs ++ (rdCls j s).1, (rdCls j s).2)) ∧ Aside0 (RdAt 67 W.heap.size W.heap.size w' s) ∧ Aside0 (Kd.R k46 46 w' W.heap.size (fun _ => True) v6 xs) ∧ Aside0 (Below W.heap.size W w'))
  case atStart => exact ⟨0, (rdNum 1000 (b, false)).1.toNat, (rdNum 1000 (b, false)).2, [], rfl, ⟨rfl, by simp, rfl⟩, ⟨by simp⟩, ⟨HR2.out⟩, ⟨Kd.R_nil _ _ _ _ _⟩, ⟨HB2.out⟩⟩
  case round =>
    obtain ⟨i, j, s, xs, rfl, HJ, HE, HRd, HO, HB⟩ := hrel
    have hbad := RdAt.badc HRd.out
    have HWI := Aside0.mk (wrap_up i (by have := HJ.out; have := HNN.out; omega))
    cases hlt : decide ((i : Int) < (rdNum 1000 (b, false)).1) with
    | false =>
      have hj0 : j = 0 := by have := HJ.out; have := HNI.out; have := of_decide_eq_false hlt; omega
      subst hj0
      have hE := HE.out
      simp only [rdCls, List.append_nil] at hE
      have HE2 := Aside0.mk hE
      clear hE HE
      obtain ⟨A5, n5, h5, hl5, hC5⟩ := Kd.R_reads HO.out
      subst h5
      have HC5 := Aside0.mk hC5
      have HLN := Aside0.mk (show xs.length ≤ 9223372036854775807 by have := HJ.out; have := HNN.out; omega)
      clear hC5 hl5
      cases hd : rdDone s with
      | false =>
        have HD := Aside0.mk hd
        have HOF := Aside0.mk (show ofK b = ([], 20) by unfold ofK; rw [HE2.out]; simp only [hd]; simp)
        clear hd
        go_wp2_with (go_at_call 30; refine (rf_done W.heap.size W.heap.size s _ HRd.out).mono ?_; rintro e w3' ⟨rfl, rfl⟩; simp only [HD.out])
        go_ret2
        refine ⟨.slice none 0 0, by rw [HOF.out]; rfl, ?_, HB.out⟩
        rw [HOF.out]
        exact Kd.R_nil _ _ _ _ _
      | true =>
        have HD := Aside0.mk hd
        by_cases he : confE xs = 0
        · have HEE := Aside0.mk he
          have HOF := Aside0.mk (show ofK b = (xs, 0) by unfold ofK; rw [HE2.out]; simp only [hd, he]; simp)
          clear hd he
          go_wp2_with (first | (go_at_call 30; refine (rf_done W.heap.size W.heap.size s _ HRd.out).mono ?_; rintro e w3' ⟨rfl, rfl⟩; simp only [HD.out]) | (go_at_call 12; refine (refClashes_calls A5 n5 xs _ HC5.out HLN.out).mono ?_; rw [HEE.out]; rintro e w3 ⟨rfl, hb⟩; have HO3 := Aside0.mk (Kd.R_below HO.out hb); have HB3 := Aside0.mk (below_step HB.out hb); clear hb))
          go_ret2
          refine ⟨.slice A5 xs.length n5, by rw [HOF.out]; rfl, ?_, HB3.out⟩
          rw [HOF.out]
          exact HO3.out
        · have HOF := Aside0.mk (show ofK b = ([], 20) by unfold ofK; rw [HE2.out]; simp only [hd]; simp [he])
          have he' : (confE xs != 0) = true := bne_iff_ne.mpr he
          clear hd he
          go_wp2_with (first | (go_at_call 30; refine (rf_done W.heap.size W.heap.size s _ HRd.out).mono ?_; rintro e w3' ⟨rfl, rfl⟩; simp only [HD.out]) | (go_at_call 12; refine (refClashes_calls A5 n5 xs _ HC5.out HLN.out).mono ?_; rintro e w3 ⟨rfl, hb⟩; have HB3 := Aside0.mk (below_step HB.out hb); clear hb))
          go_ret2
          refine ⟨.slice none 0 0, by rw [HOF.out]; rfl, ?_, HB3.out⟩
          rw [HOF.out]
          exact Kd.R_nil _ _ _ _ _
    | true =>
      obtain ⟨bs, bad⟩ := s
      cases bad with
      | true =>
        simp only at hbad
        have HD := Aside0.mk (show rdDone (bs, true) = false by simp [rdDone])
        have hOF : ofK b = ([], 20) := by
          have h1 := rdCls_bad j (s := (bs, true)) rfl
          unfold ofK
          rw [HE.out]
          rw [if_neg]
          intro h
          have h2 := (rdDone_iff _).1 h.1
          simp only at h2
          rw [h2] at h1
          cases h1
        have HOF := Aside0.mk hOF
        clear hOF
        go_wp2_with (go_at_call 30; refine (rf_done W.heap.size W.heap.size (bs, true) _ HRd.out).mono ?_; rintro e w3' ⟨rfl, rfl⟩; simp only [HD.out])
        go_ret2
        refine ⟨.slice none 0 0, by rw [HOF.out]; rfl, ?_, HB.out⟩
        rw [HOF.out]
        exact Kd.R_nil _ _ _ _ _
      | false =>
        simp only at hbad
        obtain ⟨j, rfl⟩ : ∃ j', j = j' + 1 := ⟨j - 1, by have := HJ.out; have := HNI.out; have := of_decide_eq_true hlt; omega⟩
        generalize hs : ((bs, false) : RS) = s at HE HRd
        clear hs
        go_wp2_with (go_at_call 28; refine (rf_text W.heap.size W.heap.size s 40 _ HRd.out (by decide)).mono ?_; rintro e w1' ⟨rfl, hr, hf⟩; have HC1 := Aside0.mk (clSt_new hr hf HO.out HB.out (by decide) (rdText 40 s).1); clear hr hf)
        generalize w1'.alloc (.cells #[.string (rdText 40 s).1, .bool false, .string ⟨#[]⟩, .bool false, .string ⟨#[]⟩, .bool false, .string ⟨#[]⟩] 46) = X1 at HC1 ⊢
        generalize w1'.heap.size = C at HC1 ⊢
        go_loopg [9, 10] 3 (fun kq v9 v10 w' => ∃ k : Nat, v10 = .int .i64 (k : Int) ∧ Aside0 (k ≤ 3 ∧ kq = 3 - k) ∧ Aside0 (ClSt 67 W W.heap.size C w' (stK s k) ⟨(rdText 40 s).1, ⟨false, ⟨#[]⟩⟩, ⟨false, ⟨#[]⟩⟩, ⟨false, ⟨#[]⟩⟩⟩ u6 xs) ∧ Aside0 (Kd.R k44 44 w' W.heap.size (fun _ => True) v9 (sdK s k)))
        case atStart => exact ⟨0, rfl, ⟨by omega, by omega⟩, ⟨HC1.out⟩, ⟨Kd.R_nil _ _ _ _ _⟩⟩
        case round =>
          obtain ⟨k, rfl, HI3, HS, HL⟩ := hrel
          cases hk3 : decide ((k : Int) < 3) with
          | true =>
            have HK3 := Aside0.mk (of_decide_eq_true hk3)
            have HWK := Aside0.mk (show wrap64 ((k : Int) + 1) = ((k + 1 : Nat) : Int) by have := HI3.out; unfold wrap64; omega)
            go_upto_region 14 with (first | (go_at_call 28; have hq := HSf.out; clear hq; refine (rf_text W.heap.size W.heap.size _ 200 _ (HSf.out.rd.below (below_alloc (Below.refl _ _) _)) (by decide)).mono ?_; rintro e w6 ⟨rfl, hr, hf⟩; have HS6 := Aside0.mk ((HSf.out.below (below_alloc (Below.refl _ _) _)).fr hr hf (by decide)); have HL6 := Aside0.mk (hf.R (Kd.R_alloc (Kd.R_mono (Kd.R_bound HLf.out) (fun q hq => Nat.ne_of_lt hq.2.2.1)) (.cells #[.bool (rdFlag (stK s k)).1, .string ⟨#[]⟩] 44)) (sd_E2 (by decide))); have hy := hf.blk (blk_new w5 (.cells #[.bool (rdFlag (stK s k)).1, .string ⟨#[]⟩] 44)) (by decide); have HY := Aside0.mk hy; have y0 : World.cell? w6 ⟨w5.heap.size, 0, none⟩ = some (.bool (rdFlag (stK s k)).1) := (blk_cell hy 0).trans rfl; have y1 : World.cell? w6 ⟨w5.heap.size, 1, none⟩ = some (.string ⟨#[]⟩) := (blk_cell hy 1).trans rfl; have zy0 := blk_frozen hy 0; have zy1 := blk_frozen hy 1; have HV := Aside0.mk HSf.out.bel.size; clear hr hf hy HSf HLf) | (go_at_call 29; refine (rf_flag W.heap.size W.heap.size (stK s k) _ HS.out.rd).mono ?_; rintro e w5 ⟨rfl, hr, hf⟩; have HSf := Aside0.mk (HS.out.fr hr hf (by decide)); have HLf := Aside0.mk (hf.R HL.out (sd_E2 (by decide))); clear hr hf))
            have HSx := Aside0.mk (HS6.out.fr2 ((Fr.refl W.heap.size [44] w6).set HY.out HV.out (by simp) 1 (.string (rdText 200 (rdFlag (stK s k)).2).1)) (by decide))
            have HLx := Aside0.mk (Kd.R_far HL6.out (p := ⟨w5.heap.size, 1, none⟩) (fun q hq => hq) (.string (rdText 200 (rdFlag (stK s k)).2).1))
            have hyx := blk_set HY.out 1 (.string (rdText 200 (rdFlag (stK s k)).2).1)
            clear y0 y1 zy0 zy1
            generalize w6.setCell ⟨w5.heap.size, 1, none⟩ (.string (rdText 200 (rdFlag (stK s k)).2).1) = X at HSx HLx hyx ⊢
            have y0 : World.cell? X ⟨w5.heap.size, 0, none⟩ = some (.bool (rdFlag (stK s k)).1) := (blk_cell hyx 0).trans rfl
            have y1 : World.cell? X ⟨w5.heap.size, 1, none⟩ = some (.string (rdText 200 (rdFlag (stK s k)).2).1) := (blk_cell hyx 1).trans rfl
            clear hyx
            go_wp2_with (at_builtin; refine Kd.R_append k44 (w0 := W) W.heap.size rfl (.tmp 42) (.tmp 44) 58 44 (.agg #[.bool false, .string ⟨#[]⟩]) 24 rfl Try.underlying58 (by kernel_rfl) rfl (by decide) (by omega) u9 (sdK s k) (rdS (stK s k)).1 [.bool (rdFlag (stK s k)).1, .string (rdText 200 (rdFlag (stK s k)).2).1] (fun _ => True) (fun _ => False) rfl rfl ?aP (fun _ hk => hk.elim) ?aF ?aO ?aB ?aS ?aL ?_; (case aP => exact k44_mkM _ _ _ _); (case aF => exact fun _ _ => trivial); (case aO => exact Kd.R_mono HLx.out (fun _ _ => trivial)); (case aB => exact HSx.out.bel); (case aS => exact HSx.out.bel.size); (case aL => have := HI3.out; rw [sdK_len]; omega); intro v9' w9 ho hb hgr hat; have HL9 := Aside0.mk ho; have HS9 := Aside0.mk (HSx.out.fr2 (show Fr W.heap.size [44] X w9 by obtain ⟨inner, h⟩ := Kd.R_own HLx.out; exact Fr.of_grown h (Nat.le_refl _) hgr (by simp)) (by decide)); clear ho hb hgr hat)
            go_roundg (3 - (k + 1))
            case measure => have := HI3.out; have := HK3.out; omega
            case rel => exact ⟨k + 1, by rw [HWK.out], ⟨by have := HK3.out; omega, rfl⟩, ⟨HS9.out⟩, ⟨HL9.out⟩⟩
          | false =>
            have hk : k = 3 := by have := HI3.out; have := of_decide_eq_false hk3; omega
            subst hk
            obtain ⟨A9, n9, h9, hl9, hC9⟩ := Kd.R_reads HL.out
            subst h9
            have HSd := Aside0.mk (HS.out.below (below_drew (Below.refl _ _)))
            obtain ⟨ad, rfl, l00, l01⟩ := at_T44 (Kd.C_drew hC9) 0 (by omega) (by rw [sdK_len]; omega)
            obtain ⟨ad1, e1, l10, l11⟩ := at_T44 (Kd.C_drew hC9) 1 (by omega) (by rw [sdK_len]; omega)
            obtain ⟨ad2, e2, l20, l21⟩ := at_T44 (Kd.C_drew hC9) 2 (by omega) (by rw [sdK_len]; omega)
            obtain rfl : ad = ad1 := (by injection e1)
            obtain rfl : ad = ad2 := (by injection e2)
            obtain ⟨q0, q1, q2⟩ := sdK3 s
            rw [q0] at l00 l01
            rw [q1] at l10 l11
            rw [q2] at l20 l21
            have HS1 := HS.out.set1 (by decide) (rdS (stK s 0)).1
            have HS2 := HS1.set2 (by decide) (rdS (stK s 1)).1
            have hF1 : Fr W.heap.size [46] wr ((wr.setCell ⟨C, 1, none⟩ (.bool (rdS (stK s 0)).1.f0)).setCell ⟨C, 2, none⟩ (.string (rdS (stK s 0)).1.f1)) := ((Fr.refl W.heap.size [46] wr).set HS.out.bC HS.out.le (by simp) 1 _).set HS.out.bC HS.out.le (by simp) 2 _
            have hF2 : Fr W.heap.size [46] wr ((((wr.setCell ⟨C, 1, none⟩ (.bool (rdS (stK s 0)).1.f0)).setCell ⟨C, 2, none⟩ (.string (rdS (stK s 0)).1.f1)).setCell ⟨C, 3, none⟩ (.bool (rdS (stK s 1)).1.f0)).setCell ⟨C, 4, none⟩ (.string (rdS (stK s 1)).1.f1)) := (hF1.set' HS1.bC HS.out.le (by simp) 3 _).trans ((Fr.refl W.heap.size [46] _).set' (blk_set HS1.bC 3 _) HS.out.le (by simp) 4 _)
            have hL1 := (Kd.R_reads' (hF1.R HL.out (sd_E2 (by decide)))).2.2
            have hL2 := (Kd.R_reads' (hF2.R HL.out (sd_E2 (by decide)))).2.2
            obtain ⟨b11, e11, h110, h111⟩ := at_T44 hL1 1 (by omega) (by rw [sdK_len]; omega)
            obtain rfl : ad = b11 := (by injection e11)
            rw [q1] at h110 h111
            have i1100 : World.cell? ((wr.setCell ⟨C, 1, none⟩ (.bool (rdS (stK s 0)).1.f0)).setCell ⟨C, 2, none⟩ (.string (rdS (stK s 0)).1.f1)) ⟨ad.block, ad.off + 2, none⟩ = some (.bool (rdS (stK s 1)).1.f0) := h110
            have i1110 : World.cell? ((wr.setCell ⟨C, 1, none⟩ (.bool (rdS (stK s 0)).1.f0)).setCell ⟨C, 2, none⟩ (.string (rdS (stK s 0)).1.f1)) ⟨ad.block, ad.off + 2 + 1, none⟩ = some (.string (rdS (stK s 1)).1.f1) := h111
            have i1111 : World.cell? ((wr.setCell ⟨C, 1, none⟩ (.bool (rdS (stK s 0)).1.f0)).setCell ⟨C, 2, none⟩ (.string (rdS (stK s 0)).1.f1)) ⟨ad.block, ad.off + 3, none⟩ = some (.string (rdS (stK s 1)).1.f1) := h111
            clear e11 h110 h111
            obtain ⟨b12, e12, h120, h121⟩ := at_T44 hL1 2 (by omega) (by rw [sdK_len]; omega)
            obtain rfl : ad = b12 := (by injection e12)
            rw [q2] at h120 h121
            have i1200 : World.cell? ((wr.setCell ⟨C, 1, none⟩ (.bool (rdS (stK s 0)).1.f0)).setCell ⟨C, 2, none⟩ (.string (rdS (stK s 0)).1.f1)) ⟨ad.block, ad.off + 4, none⟩ = some (.bool (rdS (stK s 2)).1.f0) := h120
            have i1210 : World.cell? ((wr.setCell ⟨C, 1, none⟩ (.bool (rdS (stK s 0)).1.f0)).setCell ⟨C, 2, none⟩ (.string (rdS (stK s 0)).1.f1)) ⟨ad.block, ad.off + 4 + 1, none⟩ = some (.string (rdS (stK s 2)).1.f1) := h121
            have i1211 : World.cell? ((wr.setCell ⟨C, 1, none⟩ (.bool (rdS (stK s 0)).1.f0)).setCell ⟨C, 2, none⟩ (.string (rdS (stK s 0)).1.f1)) ⟨ad.block, ad.off + 5, none⟩ = some (.string (rdS (stK s 2)).1.f1) := h121
            clear e12 h120 h121
            obtain ⟨b21, e21, h210, h211⟩ := at_T44 hL2 1 (by omega) (by rw [sdK_len]; omega)
            obtain rfl : ad = b21 := (by injection e21)
            rw [q1] at h210 h211
            have i2100 : World.cell? ((((wr.setCell ⟨C, 1, none⟩ (.bool (rdS (stK s 0)).1.f0)).setCell ⟨C, 2, none⟩ (.string (rdS (stK s 0)).1.f1)).setCell ⟨C, 3, none⟩ (.bool (rdS (stK s 1)).1.f0)).setCell ⟨C, 4, none⟩ (.string (rdS (stK s 1)).1.f1)) ⟨ad.block, ad.off + 2, none⟩ = some (.bool (rdS (stK s 1)).1.f0) := h210
            have i2110 : World.cell? ((((wr.setCell ⟨C, 1, none⟩ (.bool (rdS (stK s 0)).1.f0)).setCell ⟨C, 2, none⟩ (.string (rdS (stK s 0)).1.f1)).setCell ⟨C, 3, none⟩ (.bool (rdS (stK s 1)).1.f0)).setCell ⟨C, 4, none⟩ (.string (rdS (stK s 1)).1.f1)) ⟨ad.block, ad.off + 2 + 1, none⟩ = some (.string (rdS (stK s 1)).1.f1) := h211
            have i2111 : World.cell? ((((wr.setCell ⟨C, 1, none⟩ (.bool (rdS (stK s 0)).1.f0)).setCell ⟨C, 2, none⟩ (.string (rdS (stK s 0)).1.f1)).setCell ⟨C, 3, none⟩ (.bool (rdS (stK s 1)).1.f0)).setCell ⟨C, 4, none⟩ (.string (rdS (stK s 1)).1.f1)) ⟨ad.block, ad.off + 3, none⟩ = some (.string (rdS (stK s 1)).1.f1) := h211
            clear e21 h210 h211
            obtain ⟨b22, e22, h220, h221⟩ := at_T44 hL2 2 (by omega) (by rw [sdK_len]; omega)
            obtain rfl : ad = b22 := (by injection e22)
            rw [q2] at h220 h221
            have i2200 : World.cell? ((((wr.setCell ⟨C, 1, none⟩ (.bool (rdS (stK s 0)).1.f0)).setCell ⟨C, 2, none⟩ (.string (rdS (stK s 0)).1.f1)).setCell ⟨C, 3, none⟩ (.bool (rdS (stK s 1)).1.f0)).setCell ⟨C, 4, none⟩ (.string (rdS (stK s 1)).1.f1)) ⟨ad.block, ad.off + 4, none⟩ = some (.bool (rdS (stK s 2)).1.f0) := h220
            have i2210 : World.cell? ((((wr.setCell ⟨C, 1, none⟩ (.bool (rdS (stK s 0)).1.f0)).setCell ⟨C, 2, none⟩ (.string (rdS (stK s 0)).1.f1)).setCell ⟨C, 3, none⟩ (.bool (rdS (stK s 1)).1.f0)).setCell ⟨C, 4, none⟩ (.string (rdS (stK s 1)).1.f1)) ⟨ad.block, ad.off + 4 + 1, none⟩ = some (.string (rdS (stK s 2)).1.f1) := h221
            have i2211 : World.cell? ((((wr.setCell ⟨C, 1, none⟩ (.bool (rdS (stK s 0)).1.f0)).setCell ⟨C, 2, none⟩ (.string (rdS (stK s 0)).1.f1)).setCell ⟨C, 3, none⟩ (.bool (rdS (stK s 1)).1.f0)).setCell ⟨C, 4, none⟩ (.string (rdS (stK s 1)).1.f1)) ⟨ad.block, ad.off + 5, none⟩ = some (.string (rdS (stK s 2)).1.f1) := h221
            clear e22 h220 h221
            have HS3 := Aside0.mk (HS2.set3 (by decide) (rdS (stK s 2)).1)
            have HF2 := Aside0.mk hF2
            clear HS1 HS2 hF1 hF2 hL1 hL2
            rw [sdK_len]
            obtain ⟨c0, c1, c2, c3, c4, c5, c6⟩ := cla_cells HSd.out.bC
            have z1 := blk_frozen HSd.out.bC 1
            have z2 := blk_frozen HSd.out.bC 2
            have z3 := blk_frozen HSd.out.bC 3
            have z4 := blk_frozen HSd.out.bC 4
            have z5 := blk_frozen HSd.out.bC 5
            have z6 := blk_frozen HSd.out.bC 6
            have md010 : World.cell? wr.drew ⟨ad.block, ad.off + 1, none⟩ = some (.string (rdS (stK s 0)).1.f1) := l01
            have md100 : World.cell? wr.drew ⟨ad.block, ad.off + 2, none⟩ = some (.bool (rdS (stK s 1)).1.f0) := l10
            have md110 : World.cell? wr.drew ⟨ad.block, ad.off + 2 + 1, none⟩ = some (.string (rdS (stK s 1)).1.f1) := l11
            have md111 : World.cell? wr.drew ⟨ad.block, ad.off + 3, none⟩ = some (.string (rdS (stK s 1)).1.f1) := l11
            have md200 : World.cell? wr.drew ⟨ad.block, ad.off + 4, none⟩ = some (.bool (rdS (stK s 2)).1.f0) := l20
            have md210 : World.cell? wr.drew ⟨ad.block, ad.off + 4 + 1, none⟩ = some (.string (rdS (stK s 2)).1.f1) := l21
            have md211 : World.cell? wr.drew ⟨ad.block, ad.off + 5, none⟩ = some (.string (rdS (stK s 2)).1.f1) := l21
            have mw010 : World.cell? wr ⟨ad.block, ad.off + 1, none⟩ = some (.string (rdS (stK s 0)).1.f1) := l01
            have mw100 : World.cell? wr ⟨ad.block, ad.off + 2, none⟩ = some (.bool (rdS (stK s 1)).1.f0) := l10
            have mw110 : World.cell? wr ⟨ad.block, ad.off + 2 + 1, none⟩ = some (.string (rdS (stK s 1)).1.f1) := l11
            have mw111 : World.cell? wr ⟨ad.block, ad.off + 3, none⟩ = some (.string (rdS (stK s 1)).1.f1) := l11
            have mw200 : World.cell? wr ⟨ad.block, ad.off + 4, none⟩ = some (.bool (rdS (stK s 2)).1.f0) := l20
            have mw210 : World.cell? wr ⟨ad.block, ad.off + 4 + 1, none⟩ = some (.string (rdS (stK s 2)).1.f1) := l21
            have mw211 : World.cell? wr ⟨ad.block, ad.off + 5, none⟩ = some (.string (rdS (stK s 2)).1.f1) := l21
            have mm : World.cell? wr.drew ad = some (.bool (rdS (stK s 0)).1.f0) := l00
            have mw : World.cell? wr ad = some (.bool (rdS (stK s 0)).1.f0) := l00
            obtain ⟨f0, f1, f2, f3, f4, f5, f6⟩ := cla_cells HS.out.bC
            have g1 := blk_frozen HS.out.bC 1
            have g2 := blk_frozen HS.out.bC 2
            have g3 := blk_frozen HS.out.bC 3
            have g4 := blk_frozen HS.out.bC 4
            have g5 := blk_frozen HS.out.bC 5
            have g6 := blk_frozen HS.out.bC 6
            clear l00 l01 l10 l11 l20 l21 e1 e2
            go_wp2
            go_region
            clear f0 f1 f2 f3 f4 f5 f6 c0 c1 c2 c3 c4 c5 c6
            have HS4 := Aside0.mk (HS3.out.below (below_drew (Below.refl _ _)))
            generalize ((((((wr.setCell ⟨C, 1, none⟩ (.bool (rdS (stK s 0)).1.f0)).setCell ⟨C, 2, none⟩ (.string (rdS (stK s 0)).1.f1)).setCell ⟨C, 3, none⟩ (.bool (rdS (stK s 1)).1.f0)).setCell ⟨C, 4, none⟩ (.string (rdS (stK s 1)).1.f1)).setCell ⟨C, 5, none⟩ (.bool (rdS (stK s 2)).1.f0)).setCell ⟨C, 6, none⟩ (.string (rdS (stK s 2)).1.f1)).drew = X at HS4 ⊢
            have HS5 : Aside0 (ClSt 67 W W.heap.size C X (rdCl s).2 (rdCl s).1 u6 xs) := HS4
            obtain ⟨c0, c1, c2, c3, c4, c5, c6⟩ := cla_cells HS5.out.bC
            go_wp2_with (at_builtin; refine Kd.R_append k46 (w0 := W) W.heap.size rfl (.tmp 58) (.tmp 60) 22 46 (.agg #[.string ⟨#[]⟩, .bool false, .string ⟨#[]⟩, .bool false, .string ⟨#[]⟩, .bool false, .string ⟨#[]⟩]) 88 rfl Try.underlying22 (by kernel_rfl) rfl (by decide) (by omega) u6 xs (rdCl s).1 [.string (rdCl s).1.f0, .bool (rdCl s).1.f1.f0, .string (rdCl s).1.f1.f1, .bool (rdCl s).1.f2.f0, .string (rdCl s).1.f2.f1, .bool (rdCl s).1.f3.f0, .string (rdCl s).1.f3.f1] (fun _ => True) (fun _ => False) rfl rfl ?aP (fun _ hk => hk.elim) ?aF ?aO ?aB ?aS ?aL ?_; (case aP => exact k46_mkM _ _ _ _); (case aF => exact fun _ _ => trivial); (case aO => exact Kd.R_mono HS5.out.hR (fun _ _ => trivial)); (case aB => exact HS5.out.bel); (case aS => exact HS5.out.bel.size); (case aL => have := HJ.out; have := HNN.out; omega); intro v9 w9 ho hb hgr hat; have HO9 := Aside0.mk ho; have HB9 := Aside0.mk hb; have HRd9 := Aside0.mk (HS5.out.rd.fr (show Fr W.heap.size [46] X w9 by obtain ⟨inner, h⟩ := Kd.R_own HS5.out.hR; exact Fr.of_grown h (Nat.le_refl _) hgr (by simp)) (by decide)); clear ho hb hgr hat)
            go_roundg j
            case measure => have := HJ.out; omega
            case rel => exact ⟨i + 1, j, (rdCl s).2, xs ++ [(rdCl s).1], by rw [HWI.out], ⟨rfl, by have := HJ.out; omega, by have := HJ.out; simp; omega⟩, ⟨cls_snoc _ _ _ _ _ HE.out⟩, ⟨HRd9.out⟩, ⟨HO9.out⟩, ⟨HB9.out⟩⟩
end Go.Proofs.Yteaepfdahdenmaa.Sep
