/- The walk of the law PackFields. Conditions: the bounds of the statement. -/
import Derived.Test.YtmcgafgmhddliaaFew
import Derived.Test.YtmcgafgmhddliaaOpenS
import Derived.Test.YtmcgafgmhddliaaRefOf
import Derived.Test.YtmcgafgmhddliaaRefPut
import Derived.Test.YtmcgafgmhddliaaSameF
import Derived.Deep.RegionWith
import Derived.BigQuiet
namespace Go.Proofs.Ytmcgafgmhddliaa.Sep
open Go.RowKit Go.Proofs.Ytmcgafgmhddliaa.PCore Go.Proofs.Ytmcgafgmhddliaa.Plain Go.Proofs.YtmcgafgmhddliaaW.PrintWords Go.Proofs.YtmcgafgmhddliaaW.PrintLast Go.Proofs.YtmcgafgmhddliaaW.PrintMore
open Go.Proofs.Ytmcgafgmhddliaa.PDat (S70 k70 z70 rd_T70 at_T70)
theorem okF_of {l : List S70} (hw : ∀ x ∈ l, ok70 x) (hf : fewB l = true) : OkF l ∧ l.length ≤ 20 := by
  simp only [fewB, Bool.and_eq_true, List.all_eq_true, decide_eq_true_eq] at hf
  refine ⟨fun x hx => ⟨of_wf_u64 (hw x hx).2.1, ?_⟩, hf.2⟩
  have := hf.1 x hx
  simp only [smallF, decide_eq_true_eq] at this
  omega
theorem ofL_len : ∀ (ks : List Int) (s : RS) (p : List S70 × RS), ofL ks s = some p → p.1.length = ks.length := by
  intro ks
  induction ks with
  | nil => intro s p h; simp [ofL] at h; rw [← h]; rfl
  | cons k ks ih =>
    intro s p h
    simp only [ofL] at h
    split at h
    · obtain ⟨q, hq, rfl⟩ := Option.map_eq_some_iff.1 h
      simp [ih _ _ hq]
    · cases h
theorem ofB_len (ks b : List Int) (h : ks.length ≤ 1000) : (ofB ks b).1.length ≤ 140737488355328 := by
  unfold ofB
  cases hq : ofL ks (b, false) with
  | none => simp
  | some p =>
    have := ofL_len _ _ _ hq
    simp only
    split
    · simp only; omega
    · simp
set_option maxHeartbeats 40000000 in
set_option maxRecDepth 100000 in
theorem packFields_walk (A0 : Option Addr) (c0 : Nat) (l : List S70) (A1 : Option Addr) (c1 : Nat) (b : List Int) (A2 : Option Addr) (c2 : Nat) (ks : List Int) (W : World)
    (hC0 : Kd.C k70 W A0 l.length l) (_hc0 : l.length ≤ c0) (hm0 : l.length ≤ maxLen) (hw0 : ∀ x ∈ l, ok70 x)
    (hC1 : Kd.C (Kd.int .u8) W A1 b.length b) (hc1 : b.length ≤ c1) (_hm1 : b.length ≤ maxLen) (hw1 : ∀ x ∈ b, (Lit.int .u8 x).wf = true)
    (hC2 : Kd.C (Kd.int .i64) W A2 ks.length ks) (_hc2 : ks.length ≤ c2) (_hm2 : ks.length ≤ maxLen) (_hw2 : ∀ x ∈ ks, (Lit.int .i64 x).wf = true) :
    Calls Try.prog 14 #[.slice A0 l.length c0, .slice A1 b.length c1, .slice A2 ks.length c2] W fun e W1 => e = .returned (.bool true) ∧ Below W.heap.size W W1 := by
  have HA := Aside0.mk (awake2_calls W)
  have HC0 := Aside0.mk hC0
  have HM0 := Aside0.mk (show l.length ≤ 9223372036854775807 from hm0)
  cases hf : fewB l with
  | false =>
    clear hC0 _hc0 hm0 hw0 hC1 hc1 _hm1 hw1 hC2 _hc2 _hm2 _hw2
    go_enter Try.func14, Try.ntmps14
    go_wp2_with (first | (go_at_call 38; refine HA.out.mono ?_; rintro e w1 ⟨rfl, hb⟩; have HB := Aside0.mk hb; clear hb) | (go_at_call 48; refine (few_calls _ _ _ _ (Kd.C_below HC0.out HB.out) HM0.out).mono ?_; rintro e w2 ⟨rfl, hb2⟩; have HB2 := Aside0.mk (below_step HB.out hb2); clear hb2))
    go_ret
    exact ⟨rfl, HB2.out⟩
  | true =>
    by_cases hb : (500 : Int) < (b.length : Int)
    · have hb' : decide ((500 : Int) < (b.length : Int)) = true := decide_eq_true hb
      clear hC0 _hc0 hm0 hw0 hC1 hc1 _hm1 hw1 hC2 _hc2 _hm2 _hw2
      go_enter Try.func14, Try.ntmps14
      go_wp2_with (first | (go_at_call 38; refine HA.out.mono ?_; rintro e w1 ⟨rfl, hb⟩; have HB := Aside0.mk hb; clear hb) | (go_at_call 48; refine (few_calls _ _ _ _ (Kd.C_below HC0.out HB.out) HM0.out).mono ?_; rintro e w2 ⟨rfl, hb2⟩; have HB2 := Aside0.mk (below_step HB.out hb2); clear hb2))
      go_ret
      exact ⟨rfl, HB2.out⟩
    · have hb' : decide ((500 : Int) < (b.length : Int)) = false := decide_eq_false hb
      by_cases hk : (20 : Int) < (ks.length : Int)
      · have hk' : decide ((20 : Int) < (ks.length : Int)) = true := decide_eq_true hk
        clear hC0 _hc0 hm0 hw0 hC1 hc1 _hm1 hw1 hC2 _hc2 _hm2 _hw2
        go_enter Try.func14, Try.ntmps14
        go_wp2_with (first | (go_at_call 38; refine HA.out.mono ?_; rintro e w1 ⟨rfl, hb⟩; have HB := Aside0.mk hb; clear hb) | (go_at_call 48; refine (few_calls _ _ _ _ (Kd.C_below HC0.out HB.out) HM0.out).mono ?_; rintro e w2 ⟨rfl, hb2⟩; have HB2 := Aside0.mk (below_step HB.out hb2); clear hb2))
        go_ret
        exact ⟨rfl, HB2.out⟩
      · have hk' : decide ((20 : Int) < (ks.length : Int)) = false := decide_eq_false hk
        have HFB := Aside0.mk (show Fine (b, false) from ⟨fun x hx => of_wf_u8 (hw1 x hx), by show b.length ≤ 1000000; omega, fun h => by simp at h⟩)
        have HC1 := Aside0.mk hC1
        have HCC := Aside0.mk hc1
        have HC2 := Aside0.mk hC2
        have HK20 := Aside0.mk (show ks.length ≤ 1000 by omega)
        have HOK := Aside0.mk (okF_of hw0 hf)
        clear hC0 _hc0 hm0 hw0 hC1 hc1 _hm1 hw1 hC2 _hc2 _hm2 _hw2
        go_enter Try.func14, Try.ntmps14
        go_wp2_with (first | (go_at_call 38; refine HA.out.mono ?_; rintro e w1 ⟨rfl, hb⟩; have HB := Aside0.mk hb; clear hb) | (go_at_call 48; refine (few_calls _ _ _ _ (Kd.C_below HC0.out HB.out) HM0.out).mono ?_; rintro e w2 ⟨rfl, hb2⟩; have HB2 := Aside0.mk (below_step HB.out hb2); clear hb2) | (go_at_call 54; refine (pack_of _ _ _ _ _ _ _ (Kd.C_below HC1.out HB2.out) HFB.out (Kd.C_below HC2.out HB2.out) HK20.out).mono ?_; rintro e w3 ⟨v3, rfl, hr3, hb3⟩; obtain ⟨A3, c3, hv3, hl3, hC3⟩ := Kd.R_reads hr3; subst hv3; have HC3 := Aside0.mk hC3; have HL3 := Aside0.mk hl3; have HB3 := Aside0.mk (below_step HB2.out hb3); clear hr3 hb3 hC3 hl3) | (go_at_call 55; refine (ref_of _ _ _ _ _ _ _ (Kd.C_below HC1.out HB3.out) HCC.out HFB.out (Kd.C_below HC2.out HB3.out) HK20.out).mono ?_; rintro e w4 ⟨v4, rfl, hr4, hb4⟩; obtain ⟨A4, c4, hv4, hl4, hC4⟩ := Kd.R_reads hr4; subst hv4; have HC4 := Aside0.mk hC4; have HL4 := Aside0.mk hl4; have HC34 := Aside0.mk (Kd.C_below HC3.out hb4); have HB4 := Aside0.mk (below_step HB3.out hb4); clear hr4 hb4 hC4 hl4))
        have HOB := Aside0.mk (ofB_len ks b HK20.out)
        go_region_with (first | (go_at_call 56; refine (pack_put _ _ _ _ (Kd.C_below HC0.out (below_drew HB4.out)) HOK.out.1 (by have := HOK.out.2; omega)).mono ?_; rintro e w5 ⟨v5, rfl, hr5, hb5⟩; obtain ⟨A5, c5, hv5, hl5, hC5⟩ := Kd.R_reads hr5; subst hv5; have hs5 := Kd.C_string (P := Try.prog) (A := A5) (c := c5) Try.underlying34 Try.underlying5 Try.underlying9 hC5; have HC5 := Aside0.mk hC5; have HB45 := Aside0.mk (below_step (below_drew (Below.refl _ w4)) hb5); have HB5 := Aside0.mk (below_step HB4.out HB45.out); clear hr5 hb5 hC5 hl5) | (go_at_call 57; refine (ref_put _ _ _ _ (Kd.C_below HC0.out HB5.out) HOK.out.1 (by have := HOK.out.2; omega)).mono ?_; rintro e w6 ⟨v6, rfl, hr6, hb6⟩; obtain ⟨A6, c6, hv6, hl6, hC6⟩ := Kd.R_reads hr6; subst hv6; have hs6 := Kd.C_string (P := Try.prog) (A := A6) (c := c6) Try.underlying34 Try.underlying5 Try.underlying9 hC6; have hs56 := Kd.C_string (P := Try.prog) (A := A5) (c := c5) Try.underlying34 Try.underlying5 Try.underlying9 (Kd.C_below HC5.out hb6); have HB46 := Aside0.mk (below_step HB45.out hb6); have HB6 := Aside0.mk (below_step HB5.out hb6); clear hr6 hb6 hC6 hl6) | (go_at_call 58; refine (sameF_calls _ _ _ _ _ _ _ (Kd.C_below HC34.out HB46.out) HL3.out (Kd.C_below HC4.out HB46.out) HL4.out HOB.out).mono ?_; rintro e w7 ⟨rfl, hd7⟩; rw [oneF_self]; have HB7 := Aside0.mk hd7.below; clear hd7))
        all_goals (
          go_wp2
          go_ret
          exact ⟨by kernel_rfl, below_step HB6.out HB7.out⟩)
end Go.Proofs.Ytmcgafgmhddliaa.Sep
