/- The walk of the law PackReads: both readers tell the same, part by part. Conditions: the bounds of the statement. -/
import Derived.Test.YtmcgafgmhddliaaFew
import Derived.Test.YtmcgafgmhddliaaRefReader
import Derived.Test.YtmcgafgmhddliaaOpenS
import Derived.Deep.RegionWith
import Derived.BigQuiet
namespace Go.Proofs.Ytmcgafgmhddliaa.Sep
open Go.RowKit Go.Proofs.Ytmcgafgmhddliaa.PCore Go.Proofs.Ytmcgafgmhddliaa.Plain Go.Proofs.YtmcgafgmhddliaaW.PrintWords Go.Proofs.YtmcgafgmhddliaaW.PrintLast Go.Proofs.YtmcgafgmhddliaaW.PrintMore
open Go.Proofs.Ytmcgafgmhddliaa.PDat (S70 k70 z70 rd_T70 at_T70)
theorem RdAt.drew {t B g : Nat} {W : World} {s : RS} (h : RdAt t B g W s) : RdAt t B g W.drew s := h
theorem RdAt.drewN {t B g : Nat} {W : World} {s : RS} (h : RdAt t B g W s) (n : Nat) : RdAt t B g (W.drewN n) s := h
set_option maxHeartbeats 40000000 in
set_option maxRecDepth 100000 in
theorem packReads_walk (A0 : Option Addr) (c0 : Nat) (b : List Int) (A1 : Option Addr) (c1 : Nat) (l : List S70) (W : World)
    (hC0 : Kd.C (Kd.int .u8) W A0 b.length b) (hc0 : b.length ≤ c0) (_hm0 : b.length ≤ maxLen) (hw0' : ∀ x ∈ b, (Lit.int .u8 x).wf = true)
    (hC1 : Kd.C k70 W A1 l.length l) (_hc1 : l.length ≤ c1) (hm1' : l.length ≤ maxLen) (hw1' : ∀ x ∈ l, ok70 x) :
    Calls Try.prog 13 #[.slice A0 b.length c0, .slice A1 l.length c1] W fun e W1 => e = .returned (.bool true) ∧ Below W.heap.size W W1 := by
  have hm1 : l.length ≤ 9223372036854775807 := hm1'
  have hw0 : ∀ x ∈ b, 0 ≤ x ∧ x < 256 := fun x hx => of_wf_u8 (hw0' x hx)
  have hw1 : ∀ x ∈ l, 0 ≤ x.f1 ∧ x.f1 < 18446744073709551616 := fun x hx => of_wf_u64 (hw1' x hx).2.1
  clear hw0' hw1' hm1'
  have HA := Aside0.mk (awake2_calls W)
  by_cases hb : (500 : Int) < (b.length : Int)
  · have hb' : decide ((500 : Int) < (b.length : Int)) = true := decide_eq_true hb
    clear hC0 hc0 hw0 hC1 hm1 hw1
    go_enter Try.func13, Try.ntmps13
    go_wp2_with (go_at_call 38; refine HA.out.mono ?_; rintro e w1 ⟨rfl, hb⟩; have HB := Aside0.mk hb; clear hb)
    go_ret
    exact ⟨rfl, HB.out⟩
  · have hb' : decide ((500 : Int) < (b.length : Int)) = false := decide_eq_false hb
    have HC1 := Aside0.mk hC1
    have HM1 := Aside0.mk hm1
    cases hf : fewB l with
    | false =>
      clear hC0 hc0 hw0 hC1 hm1 hw1
      go_enter Try.func13, Try.ntmps13
      go_wp2_with (first | (go_at_call 38; refine HA.out.mono ?_; rintro e w1 ⟨rfl, hb⟩; have HB := Aside0.mk hb; clear hb) | (go_at_call 48; refine (few_calls _ _ _ _ (Kd.C_below HC1.out HB.out) HM1.out).mono ?_; rintro e w2 ⟨rfl, hb2⟩; have HB2 := Aside0.mk (below_step HB.out hb2); clear hb2))
      go_ret
      exact ⟨rfl, HB2.out⟩
    | true =>
      have HFB := Aside0.mk (show Fine (b, false) from ⟨hw0, by show b.length ≤ 1000000; omega, fun h => by simp at h⟩)
      have HC0 := Aside0.mk hC0
      have HCC := Aside0.mk hc0
      have HW1 := Aside0.mk hw1
      have HFW := Aside0.mk hf
      clear hC0 hc0 hw0 hC1 hm1 hw1
      go_enter Try.func13, Try.ntmps13
      go_wp2_with (first | (go_at_call 38; refine HA.out.mono ?_; rintro e w1 ⟨rfl, hb⟩; have HB := Aside0.mk hb; clear hb) | (go_at_call 48; refine (few_calls _ _ _ _ (Kd.C_below HC1.out HB.out) HM1.out).mono ?_; rintro e w2 ⟨rfl, hb2⟩; have HB2 := Aside0.mk (below_step HB.out hb2); clear hb2) | (go_at_call 49; refine (rd_read _ _ _ _ (Kd.C_below HC0.out HB2.out) HFB.out).mono ?_; rintro e w3 ⟨g, rfl, hr, hb3⟩; have HR := Aside0.mk hr; have HB3 := Aside0.mk (below_step HB2.out hb3); clear hr hb3))
      go_loopg [28] l.length (fun kq v28 w' => ∃ (i : Nat) (s : RS), v28 = .int .i64 i ∧ Aside0 (i ≤ l.length ∧ kq = l.length - i) ∧ Aside0 (RdAt 86 W.heap.size g w' s) ∧ Aside0 (RdAt 68 W.heap.size w3.heap.size w' s) ∧ Aside0 (Below W.heap.size W w'))
      case atStart =>
        refine ⟨0, (b, false), rfl, ⟨by omega, by omega⟩, ⟨(HR.out _ HB2.out.size).below (below_alloc (Below.refl _ _) _)⟩, ⟨⟨A0, c0, blk_new _ _, HB3.out.size, HCC.out, Kd.C_below (Kd.C_below HC0.out HB3.out) (below_alloc (Below.refl _ _) _), fun hp ad e => .inl ?_, HFB.out⟩⟩, ⟨below_alloc HB3.out _⟩⟩
        obtain ⟨ad', e', hc⟩ := (show ReadsInt W .u8 A0 b.length b from Kd.reads_of_C (d := 0) HC0.out).2.2 hp
        rw [e] at e'
        injection e' with e'
        subst e'
        exact World.block_lt_of_cell? _ _ (hc 0 hp)
      case round =>
        obtain ⟨i, s, rfl, HI, HP, HX, HB4⟩ := hrel
        by_cases hlt : i < l.length
        · obtain ⟨ad, rfl, h0, h1, h2, h3⟩ := at_T70 (Kd.C_below HC1.out HB4.out) (i : Int) (by omega) (by omega)
          have HXW := Aside0.mk (HW1.out _ (List.getElem_mem hlt))
          rw [rd_T_eq i hlt] at h0 h1 h2 h3
          generalize l[i] = x at h0 h1 h2 h3 HXW
          obtain ⟨f0, f1, f2, f3⟩ := x
          simp only [Int.toNat_natCast] at h0 h1 h2 h3
          have hlt' : (i : Int) < (l.length : Int) := by omega
          have HWI := Aside0.mk (show wrap64 ((i : Int) + 1) = ((i + 1 : Nat) : Int) by have := HM1.out; unfold wrap64; omega)
          by_cases k1 : f0 = 1
          · subst k1
            go_wp2
            have HK4 := Aside0.mk (blk_new wr (.cells #[.int .i64 1, .int .u64 f1, .string f2, .bool f3] 70))
            have HP4 := Aside0.mk (HP.out.below (below_alloc (Below.refl _ _) (.cells #[.int .i64 1, .int .u64 f1, .string f2, .bool f3] 70)))
            have HX4 := Aside0.mk (HX.out.below (below_alloc (Below.refl _ _) (.cells #[.int .i64 1, .int .u64 f1, .string f2, .bool f3] 70)))
            have HB5 := Aside0.mk (below_alloc HB4.out (.cells #[.int .i64 1, .int .u64 f1, .string f2, .bool f3] 70))
            generalize wr.alloc (.cells #[.int .i64 1, .int .u64 f1, .string f2, .bool f3] 70) = w4 at HK4 HP4 HX4 HB5 ⊢
            have hc4 : w4.cell? ⟨wr.heap.size, 1, none⟩ = some (.int .u64 f1) := (blk_cell HK4.out 1).trans rfl
            have HPd := Aside0.mk (HP4.out.drew)
            have HXd := Aside0.mk (HX4.out.drew)
            have HKd := Aside0.mk (show w4.drew.heap[wr.heap.size]? = _ from HK4.out)
            have HBd := Aside0.mk (below_drew HB5.out)
            go_region_with (first | (go_at_call 43; refine (rd_num W.heap.size g s f1 _ HPd.out).mono ?_; rintro e w5 ⟨rfl, hr5, hf5⟩; have HP5 := Aside0.mk hr5; have HX5 := Aside0.mk (HXd.out.fr hf5 (by decide)); have HB6 := Aside0.mk (HBd.out.trans (hf5.below HBd.out.size)); have HK5 := Aside0.mk (hf5.blk HKd.out (by decide)); have hc5 : w5.cell? ⟨wr.heap.size, 1, none⟩ = some (.int .u64 f1) := (blk_cell HK5.out 1).trans rfl; clear hr5 hf5) | (go_at_call 50; refine (rf_num W.heap.size w3.heap.size s f1 _ HX5.out).mono ?_; rintro e w6 ⟨rfl, hr6, hf6⟩; have HX6 := Aside0.mk hr6; have HP6 := Aside0.mk (HP5.out.fr hf6 (by decide)); have HB7 := Aside0.mk (HB6.out.trans (hf6.below HB6.out.size)); have HK6 := Aside0.mk (hf6.blk HK5.out (by decide)); have hc6 : w6.cell? ⟨wr.heap.size, 1, none⟩ = some (.int .u64 f1) := (blk_cell HK6.out 1).trans rfl; clear hr6 hf6))
            all_goals (
              generalize (rdNum f1 s).2 = s6 at HP6 HX6
              obtain ⟨Ax, cx, hbx, -⟩ := HX6.out
              have hcx : w6.cell? ⟨w3.heap.size, 0, none⟩ = some (.slice Ax s6.1.length cx) := (blk_cell hbx 0).trans rfl
              clear hbx hc4 hc5 hc6 h0 h1 h2 h3
              go_wp2
              go_quiet (first | (go_at_call 46; exact Calls.quiet_of_same ((rd_left W.heap.size g s6 _ (RdAt.drewN HP6.out _)).mono fun _ _ h => ⟨h.1, h.2.symm⟩)) | (go_at_call 47; exact Calls.quiet_of_same ((rd_done W.heap.size g s6 _ (RdAt.drewN HP6.out _)).mono fun _ _ h => ⟨h.1, h.2.symm⟩)) | (go_at_call 53; exact Calls.quiet_of_same ((rf_done W.heap.size w3.heap.size s6 _ (RdAt.drewN HX6.out _)).mono fun _ _ h => ⟨h.1, h.2.symm⟩)))
              go_wp2
              go_roundg (l.length - (i + 1))
              case measure => have := HI.out; omega
              case rel => exact ⟨i + 1, s6, by rw [HWI.out], ⟨by omega, rfl⟩, ⟨RdAt.drewN HP6.out _⟩, ⟨RdAt.drewN HX6.out _⟩, ⟨pw_below_drewN HB7.out _⟩⟩)
          · have k1' : (f0 == 1) = false := beq_eq_false_iff_ne.mpr k1
            by_cases k2 : f0 = 2
            · subst k2
              have HMo := Aside0.mk (show -9223372036854775808 ≤ wrap64 (wrap64 (Int.tmod f1 300) - 1) ∧ wrap64 (wrap64 (Int.tmod f1 300) - 1) < 9223372036854775808 by unfold wrap64; omega)
              go_wp2_with (first | (go_at_call 44; refine (rd_text W.heap.size g s (wrap64 (wrap64 (Int.tmod f1 300) - 1)) _ (HP.out.below (below_alloc (Below.refl _ _) _)) HMo.out).mono ?_; rintro e w5 ⟨rfl, hr5, hf5⟩; have HP5 := Aside0.mk hr5; have HX5 := Aside0.mk ((HX.out.below (below_alloc (Below.refl _ _) _)).fr hf5 (by decide)); have HB6 := Aside0.mk ((below_alloc HB4.out _).trans (hf5.below (below_alloc HB4.out _).size)); clear hr5 hf5) | (go_at_call 51; refine (rf_text W.heap.size w3.heap.size s (wrap64 (wrap64 (Int.tmod f1 300) - 1)) _ HX5.out HMo.out).mono ?_; rintro e w6 ⟨rfl, hr6, hf6⟩; have HX6 := Aside0.mk hr6; have HP6 := Aside0.mk (HP5.out.fr hf6 (by decide)); have HB7 := Aside0.mk (HB6.out.trans (hf6.below HB6.out.size)); clear hr6 hf6))
              generalize (rdText (wrap64 (wrap64 (Int.tmod f1 300) - 1)) s).2 = s6 at HP6 HX6
              obtain ⟨Ax, cx, hbx, -⟩ := HX6.out
              have hcx : w6.cell? ⟨w3.heap.size, 0, none⟩ = some (.slice Ax s6.1.length cx) := (blk_cell hbx 0).trans rfl
              clear hbx h0 h1 h2 h3
              go_wp2
              go_quiet (first | (go_at_call 46; exact Calls.quiet_of_same ((rd_left W.heap.size g s6 _ (RdAt.drewN HP6.out _)).mono fun _ _ h => ⟨h.1, h.2.symm⟩)) | (go_at_call 47; exact Calls.quiet_of_same ((rd_done W.heap.size g s6 _ (RdAt.drewN HP6.out _)).mono fun _ _ h => ⟨h.1, h.2.symm⟩)) | (go_at_call 53; exact Calls.quiet_of_same ((rf_done W.heap.size w3.heap.size s6 _ (RdAt.drewN HX6.out _)).mono fun _ _ h => ⟨h.1, h.2.symm⟩)))
              go_wp2
              go_roundg (l.length - (i + 1))
              case measure => have := HI.out; omega
              case rel => exact ⟨i + 1, s6, by rw [HWI.out], ⟨by omega, rfl⟩, ⟨RdAt.drewN HP6.out _⟩, ⟨RdAt.drewN HX6.out _⟩, ⟨pw_below_drewN HB7.out _⟩⟩
            · have k2' : (f0 == 2) = false := beq_eq_false_iff_ne.mpr k2
              go_wp2_with (first | (go_at_call 45; refine (rd_flag W.heap.size g s _ (HP.out.below (below_alloc (Below.refl _ _) _))).mono ?_; rintro e w5 ⟨rfl, hr5, hf5⟩; have HP5 := Aside0.mk hr5; have HX5 := Aside0.mk ((HX.out.below (below_alloc (Below.refl _ _) _)).fr hf5 (by decide)); have HB6 := Aside0.mk ((below_alloc HB4.out _).trans (hf5.below (below_alloc HB4.out _).size)); clear hr5 hf5) | (go_at_call 52; refine (rf_flag W.heap.size w3.heap.size s _ HX5.out).mono ?_; rintro e w6 ⟨rfl, hr6, hf6⟩; have HX6 := Aside0.mk hr6; have HP6 := Aside0.mk (HP5.out.fr hf6 (by decide)); have HB7 := Aside0.mk (HB6.out.trans (hf6.below HB6.out.size)); clear hr6 hf6))
              generalize (rdFlag s).2 = s6 at HP6 HX6
              obtain ⟨Ax, cx, hbx, -⟩ := HX6.out
              have hcx : w6.cell? ⟨w3.heap.size, 0, none⟩ = some (.slice Ax s6.1.length cx) := (blk_cell hbx 0).trans rfl
              clear hbx h0 h1 h2 h3
              go_wp2
              go_quiet (first | (go_at_call 46; exact Calls.quiet_of_same ((rd_left W.heap.size g s6 _ (RdAt.drewN HP6.out _)).mono fun _ _ h => ⟨h.1, h.2.symm⟩)) | (go_at_call 47; exact Calls.quiet_of_same ((rd_done W.heap.size g s6 _ (RdAt.drewN HP6.out _)).mono fun _ _ h => ⟨h.1, h.2.symm⟩)) | (go_at_call 53; exact Calls.quiet_of_same ((rf_done W.heap.size w3.heap.size s6 _ (RdAt.drewN HX6.out _)).mono fun _ _ h => ⟨h.1, h.2.symm⟩)))
              go_wp2
              go_roundg (l.length - (i + 1))
              case measure => have := HI.out; omega
              case rel => exact ⟨i + 1, s6, by rw [HWI.out], ⟨by omega, rfl⟩, ⟨RdAt.drewN HP6.out _⟩, ⟨RdAt.drewN HX6.out _⟩, ⟨pw_below_drewN HB7.out _⟩⟩
        · have hI : i = l.length := by have := HI.out; omega
          subst hI
          obtain ⟨Ax, cx, hbx, -⟩ := HX.out
          have hcx : wr.cell? ⟨w3.heap.size, 0, none⟩ = some (.slice Ax s.1.length cx) := (blk_cell hbx 0).trans rfl
          clear hbx
          go_wp2
          go_quiet ((go_at_call 46; exact Calls.quiet_of_same ((rd_left W.heap.size g s _ (RdAt.drewN HP.out _)).mono fun _ _ h => ⟨h.1, h.2.symm⟩)))
          go_wp2
          go_ret
          exact ⟨by simp, pw_below_drewN HB4.out _⟩
end Go.Proofs.Ytmcgafgmhddliaa.Sep
