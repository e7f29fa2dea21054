/- The walk of the law PackBack. Conditions: the bounds of the statement. -/
import Derived.Test.YtmcgafgmhddliabOwn2
import Derived.Test.YtmcgafgmhddliabOpenS
import Derived.Test.YtmcgafgmhddliabSameF
import Derived.Deep.RegionWith
import Derived.BigQuiet
namespace Go.Proofs.Ytmcgafgmhddliab.Sep
open Go.RowKit Go.Proofs.Ytmcgafgmhddliab.PCore Go.Proofs.Ytmcgafgmhddliab.Plain Go.Proofs.YtmcgafgmhddliabW.PrintWords Go.Proofs.YtmcgafgmhddliabW.PrintLast Go.Proofs.YtmcgafgmhddliabW.PrintMore
open Go.Proofs.Ytmcgafgmhddliab.PDat (S28 k28 z28 rd_T28 at_T28 k28_mkM)
theorem okF_of {l : List S28} (hw : ∀ x ∈ l, ok28 x) (hf : fewB l = true) : OkF l ∧ l.length ≤ 20 := by
  simp only [fewB, Bool.and_eq_true, List.all_eq_true, decide_eq_true_eq] at hf
  refine ⟨fun x hx => ⟨of_wf_u64 (hw x hx).2.1, ?_⟩, hf.2⟩
  have := hf.1 x hx
  simp only [smallF, decide_eq_true_eq] at this
  omega
theorem known_one {l : List S28} (i : Nat) (h : i < l.length) (hk : Known (l.take i)) (hx : ¬ (l[i].f0 < 1) ∧ ¬ (3 < l[i].f0)) : Known (l.take (i + 1)) := by
  intro x hx'
  rw [take_one l i h] at hx'
  rcases List.mem_append.1 hx' with hm | hm
  · exact hk x hm
  · rw [List.mem_singleton.1 hm]
    have := hx.1
    have := hx.2
    omega
theorem map_one {β : Type} (f : S28 → β) {l : List S28} (i : Nat) (h : i < l.length) : (l.take (i + 1)).map f = (l.take i).map f ++ [f l[i]] := by
  rw [take_one l i h, List.map_append]
  rfl
set_option maxHeartbeats 40000000 in
set_option maxRecDepth 100000 in
theorem packBack_walk (A0 : Option Addr) (c0 : Nat) (l : List S28) (A1 : Option Addr) (c1 : Nat) (m : List S28) (W : World)
    (hC0 : Kd.C k28 W A0 l.length l) (_hc0 : l.length ≤ c0) (hm0 : l.length ≤ maxLen) (hw0 : ∀ x ∈ l, ok28 x)
    (hC1 : Kd.C k28 W A1 m.length m) (_hc1 : m.length ≤ c1) (hm1 : m.length ≤ maxLen) (hw1 : ∀ x ∈ m, ok28 x) :
    Calls Try.prog 3 #[.slice A0 l.length c0, .slice A1 m.length c1] W fun e W1 => e = .returned (.bool true) ∧ Below W.heap.size W W1 := by
  have HA := Aside0.mk (awake2_calls W)
  have HC0 := Aside0.mk hC0
  have HM0 := Aside0.mk (show l.length ≤ 9223372036854775807 from hm0)
  have HC1 := Aside0.mk hC1
  have HM1 := Aside0.mk (show m.length ≤ 9223372036854775807 from hm1)
  cases hf : fewB l with
  | false =>
    clear hC0 _hc0 hm0 hw0 hC1 _hc1 hm1 hw1
    go_enter Try.func3, Try.ntmps3
    go_wp2_with (first | (go_at_call 4; refine HA.out.mono ?_; rintro e w1 ⟨rfl, hb⟩; have HB := Aside0.mk hb; clear hb) | (go_at_call 5; refine (few_calls _ _ l _ (Kd.C_below HC0.out HB.out) HM0.out).mono ?_; rintro e w2 ⟨rfl, hb2⟩; have HB2 := Aside0.mk (below_step HB.out hb2); clear hb2))
    go_ret
    exact ⟨rfl, HB2.out⟩
  | true =>
    cases hg : fewB m with
    | false =>
      clear hC0 _hc0 hm0 hw0 hC1 _hc1 hm1 hw1
      go_enter Try.func3, Try.ntmps3
      go_wp2_with (first | (go_at_call 4; refine HA.out.mono ?_; rintro e w1 ⟨rfl, hb⟩; have HB := Aside0.mk hb; clear hb) | (go_at_call 5; refine (few_calls _ _ m _ (Kd.C_below HC1.out HB2.out) HM1.out).mono ?_; rintro e w3 ⟨rfl, hb3⟩; have HB3 := Aside0.mk (below_step HB2.out hb3); clear hb3) | (go_at_call 5; refine (few_calls _ _ l _ (Kd.C_below HC0.out HB.out) HM0.out).mono ?_; rintro e w2 ⟨rfl, hb2⟩; have HB2 := Aside0.mk (below_step HB.out hb2); clear hb2))
      go_ret
      exact ⟨rfl, HB3.out⟩
    | true =>
      have HOK := Aside0.mk (okF_of hw0 hf)
      have HOM := Aside0.mk (okF_of hw1 hg)
      clear hC0 _hc0 hm0 hw0 hC1 _hc1 hm1 hw1
      go_enter Try.func3, Try.ntmps3
      go_wp2_with (first | (go_at_call 4; refine HA.out.mono ?_; rintro e w1 ⟨rfl, hb⟩; have HB := Aside0.mk hb; clear hb) | (go_at_call 5; refine (few_calls _ _ m _ (Kd.C_below HC1.out HB2.out) HM1.out).mono ?_; rintro e w3 ⟨rfl, hb3⟩; have HB3 := Aside0.mk (below_step HB2.out hb3); clear hb3) | (go_at_call 5; refine (few_calls _ _ l _ (Kd.C_below HC0.out HB.out) HM0.out).mono ?_; rintro e w2 ⟨rfl, hb2⟩; have HB2 := Aside0.mk (below_step HB.out hb2); clear hb2))
      go_loopg [5, 6, 26] l.length (fun kq v5 v6 v26 w' => ∃ i : Nat, v26 = .int .i64 i ∧ Aside0 (i ≤ l.length ∧ kq = l.length - i) ∧ Aside0 (Known (l.take i)) ∧ Aside0 (Kd.R (Kd.int .i64) 3 w' W.heap.size (fun _ => True) v5 ((l.take i).map (·.f0))) ∧ Aside0 (Kd.R k28 28 w' W.heap.size (fun _ => True) v6 ((l.take i).map ownF)) ∧ Aside0 (Below W.heap.size W w'))
      case atStart => exact ⟨0, rfl, ⟨by omega, by omega⟩, ⟨fun x hx => by simp at hx⟩, ⟨Kd.R_nil _ _ _ _ _⟩, ⟨Kd.R_nil _ _ _ _ _⟩, ⟨HB3.out⟩⟩
      case round =>
        obtain ⟨i, rfl, HI, HK, HR5, HR6, HB4⟩ := hrel
        by_cases hlt : i < l.length
        · obtain ⟨ad, rfl, h0, h1, h2, h3⟩ := at_T28 (Kd.C_below HC0.out HB4.out) (i : Int) (by omega) (by omega)
          have HT1 := Aside0.mk (map_one (·.f0) i hlt)
          have HT2 := Aside0.mk (map_one ownF i hlt)
          have HK1 := Aside0.mk (known_one i hlt HK.out)
          rw [rd_T_eq i hlt] at h0 h1 h2 h3
          generalize l[i] = x at h0 h1 h2 h3 HT1 HT2 HK1
          obtain ⟨f0, f1, f2, f3⟩ := x
          simp only [Int.toNat_natCast] at h0 h1 h2 h3
          have hlt' : (i : Int) < (l.length : Int) := by omega
          have HWI := Aside0.mk (show wrap64 ((i : Int) + 1) = ((i + 1 : Nat) : Int) by have := HM0.out; unfold wrap64; omega)
          by_cases k1 : f0 < 1
          · have k1' : decide (f0 < 1) = true := decide_eq_true k1
            go_wp2
            go_ret
            exact ⟨rfl, below_alloc HB4.out _⟩
          · have k1' : decide (f0 < 1) = false := decide_eq_false k1
            by_cases k3 : 3 < f0
            · have k3' : decide (3 < f0) = true := decide_eq_true k3
              go_wp2
              go_ret
              exact ⟨rfl, below_alloc HB4.out _⟩
            · have k3' : decide (3 < f0) = false := decide_eq_false k3
              have HK2 := Aside0.mk (HK1.out ⟨k1, k3⟩)
              clear k1 k3
              go_wp2_with (first | (at_builtin; have hq := HR6b.out; clear hq; refine Kd.R_append k28 (w0 := W) W.heap.size rfl (.tmp 43) (.tmp 46) 22 28 (.agg #[.int .i64 0, .int .u64 0, .string ⟨#[]⟩, .bool false]) 40 rfl Try.underlying22 (by kernel_rfl) rfl (by decide) (by omega) u6 ((l.take i).map ownF) (ownF ⟨f0, f1, f2, f3⟩) [.int .i64 (ownF ⟨f0, f1, f2, f3⟩).f0, .int .u64 (ownF ⟨f0, f1, f2, f3⟩).f1, .string (ownF ⟨f0, f1, f2, f3⟩).f2, .bool (ownF ⟨f0, f1, f2, f3⟩).f3] (fun _ => True) (fun _ => False) rfl rfl ?aP (fun _ hk => hk.elim) ?aF ?aO ?aB ?aS ?aL ?_; (case aP => exact k28_mkM _ _ _ _); (case aF => exact fun _ _ => trivial); (case aO => exact HR6b.out); (case aB => exact HB6.out); (case aS => exact HB6.out.size); (case aL => have := HI.out; have := HOK.out.2; rw [List.length_map, List.length_take]; omega); intro v6 w7 ho hb hgr hat; have HR6c := Aside0.mk ho; have HF7 := Aside0.mk (show Fr W.heap.size [28] w6 w7 by obtain ⟨inner, h⟩ := Kd.R_own HR6b.out; exact Fr.of_grown h (Nat.le_refl _) hgr (by simp)); have HR5c := Aside0.mk (HF7.out.R HR5b.out (i_E (by decide))); have HB7 := Aside0.mk hb; clear ho hb hgr hat) | (go_at_call 6; refine (own_at f0 f1 f2 f3 _).mono ?_; rintro e w6 ⟨rfl, hb6⟩; have HR5b := Aside0.mk (Kd.R_below HR5a.out hb6); have HR6b := Aside0.mk (Kd.R_below HR6a.out hb6); have HB6 := Aside0.mk (below_step HB5.out hb6); clear hb6) | (at_builtin; refine Kd.R_append (Kd.int .i64) (w0 := W) W.heap.size rfl (.tmp 38) (.tmp 41) 25 3 (.int .i64 0) 8 rfl Try.underlying25 (by kernel_rfl) rfl (by decide) (by omega) u5 ((l.take i).map (·.f0)) f0 [.int .i64 f0] (fun _ => True) (fun _ => False) rfl (by rw [← size_one]; rfl) ?aP (fun _ hk => hk.elim) ?aF ?aO ?aB ?aS ?aL ?_; (case aP => rfl); (case aF => exact fun _ _ => trivial); (case aO => exact Kd.R_alloc HR5.out _); (case aB => exact below_alloc HB4.out _); (case aS => exact (below_alloc HB4.out _).size); (case aL => have := HI.out; have := HOK.out.2; rw [List.length_map, List.length_take]; omega); intro v5 w5 ho hb hgr hat; have HR5a := Aside0.mk ho; have HF5 := Aside0.mk (show Fr W.heap.size [3] (wr.alloc (.cells #[.int .i64 f0, .int .u64 f1, .string f2, .bool f3] 28)) w5 by obtain ⟨inner, h⟩ := Kd.R_own (Kd.R_alloc HR5.out _); exact Fr.of_grown h (Nat.le_refl _) hgr (by simp)); have HB5 := Aside0.mk hb; have hk5 := HF5.out.blk (blk_new _ _) (by decide); have hc0 : w5.cell? ⟨wr.heap.size, 0, none⟩ = some (.int .i64 f0) := (blk_cell hk5 0).trans rfl; have hc1 : w5.cell? ⟨wr.heap.size, 1, none⟩ = some (.int .u64 f1) := (blk_cell hk5 1).trans rfl; have hc2 : w5.cell? ⟨wr.heap.size, 2, none⟩ = some (.string f2) := (blk_cell hk5 2).trans rfl; have hc3 : w5.cell? ⟨wr.heap.size, 3, none⟩ = some (.bool f3) := (blk_cell hk5 3).trans rfl; have HR6a := Aside0.mk (HF5.out.R (Kd.R_alloc HR6.out _) (k_E (by decide))); clear ho hb hgr hat hk5))
              go_roundg (l.length - (i + 1))
              case measure => have := HI.out; omega
              case rel => exact ⟨i + 1, by rw [HWI.out], ⟨by omega, rfl⟩, ⟨HK2.out⟩, ⟨by rw [HT1.out]; exact HR5c.out⟩, ⟨by rw [HT2.out]; exact HR6c.out⟩, ⟨HB7.out⟩⟩
        · have hI : i = l.length := by have := HI.out; omega
          subst hI
          have hr5 := HR5.out
          have hr6 := HR6.out
          have hkn := HK.out
          rw [List.take_length] at hr5 hr6 hkn
          have HKN := Aside0.mk hkn
          obtain ⟨A5, c5, h5, hl5, hC5⟩ := Kd.R_reads hr5
          obtain ⟨A6, c6, h6, hl6, hC6⟩ := Kd.R_reads hr6
          subst h5
          subst h6
          have HC5 := Aside0.mk hC5
          have HC6 := Aside0.mk hC6
          have HL6 := Aside0.mk hl6
          have HOB := Aside0.mk (ofB_enc l HOK.out.1 hkn)
          have HFI := Aside0.mk (show Fine (encFs l, false) from ⟨encFs_in HOK.out.1, by have := encFs_len HOK.out.1; have := HOK.out.2; show (encFs l).length ≤ 1000000; omega, fun h => by simp at h⟩)
          have HK20 := Aside0.mk (show (l.map (·.f0)).length ≤ 1000 by have := HOK.out.2; rw [List.length_map]; omega)
          have HLX := Aside0.mk (show (l.map ownF).length ≤ 140737488355328 by have := HOK.out.2; rw [List.length_map]; omega)
          clear hr5 hr6 hkn hC5 hC6 hl5 hl6 HR5 HR6
          generalize hks : l.map (·.f0) = ks at HC5 HOB HK20
          generalize hxs : l.map ownF = xs at HC6 HL6 HOB HLX
          have HKS := Aside0.mk hks
          have HXS := Aside0.mk hxs
          clear hks hxs
          by_cases hlm : (l.length : Int) = (m.length : Int)
          · have hlm' : ((l.length : Int) != (m.length : Int)) = false := bne_eq_false_iff_eq.mpr hlm
            go_wp2_with (first | (go_at_call 8; refine (pack_put _ _ l _ (Kd.C_below HC0.out HB4.out) HOK.out.1 (by have := HOK.out.2; omega)).mono ?_; rintro e w5 ⟨v5, rfl, hr5, hb5⟩; obtain ⟨A7, c7, hv7, hl7, hC7⟩ := Kd.R_reads hr5; subst hv7; have HC7 := Aside0.mk hC7; have HC5a := Aside0.mk (Kd.C_below HC5.out hb5); have HC6a := Aside0.mk (Kd.C_below HC6.out hb5); have HB5 := Aside0.mk (below_step HB4.out hb5); clear hr5 hb5 hC7 hl7) | (go_at_call 7; refine (pack_of _ _ _ _ _ _ _ HC7.out HFI.out HC5a.out HK20.out).mono ?_; simp only [HOB.out]; rintro e w6 ⟨v6, rfl, hr6, hb6⟩; obtain ⟨A8, c8, hv8, hl8, hC8⟩ := Kd.R_reads hr6; subst hv8; have HC8 := Aside0.mk hC8; have HL8 := Aside0.mk hl8; have HC5b := Aside0.mk (Kd.C_below HC5a.out hb6); have HC6b := Aside0.mk (Kd.C_below HC6a.out hb6); have HB6 := Aside0.mk (below_step HB5.out hb6); clear hr6 hb6 hC8 hl8) | (go_at_call 9; refine (sameF_calls _ _ _ _ _ _ _ HC8.out HL8.out HC6b.out HL6.out HLX.out).mono ?_; rw [oneF_self]; rintro e w7 ⟨rfl, hd7⟩; have HC5c := Aside0.mk (Kd.C_below HC5b.out hd7.below); have HC6c := Aside0.mk (Kd.C_below HC6b.out hd7.below); have HB7 := Aside0.mk (below_step HB6.out hd7.below); clear hd7))
            have HC0w := Aside0.mk (Kd.C_below HC0.out HB7.out)
            have HC1w := Aside0.mk (Kd.C_below HC1.out HB7.out)
            clear HC0 HC1 HC7 HC8 HC5 HC5a HC5b HC6 HC6a HC6b
            go_loopg [7, 71] m.length (fun kq v7 v71 w' => ∃ i : Nat, v71 = .int .i64 i ∧ Aside0 (i ≤ m.length ∧ kq = m.length - i) ∧ Aside0 ((m.take i).map (·.f0) = ks.take i) ∧ Aside0 (Kd.R k28 28 w' w7.heap.size (fun _ => True) v7 ((m.take i).map ownF)) ∧ Aside0 (Below w7.heap.size w7 w'))
            case atStart => exact ⟨0, rfl, ⟨by omega, by omega⟩, ⟨rfl⟩, ⟨Kd.R_nil _ _ _ _ _⟩, ⟨Below.refl _ _⟩⟩
            case round =>
              obtain ⟨i, rfl, HI2, HMK, HR7, HB8⟩ := hrel
              by_cases hlt2 : i < m.length
              · obtain ⟨ad, rfl, h0, h1, h2, h3⟩ := at_T28 (Kd.C_below HC1w.out HB8.out) (i : Int) (by omega) (by omega)
                have HMT := Aside0.mk (map_one ownF i hlt2)
                have HMF := Aside0.mk (map_one (·.f0) i hlt2)
                rw [rd_T_eq i hlt2] at h0 h1 h2 h3
                generalize m[i] = x at h0 h1 h2 h3 HMT HMF
                obtain ⟨f0, f1, f2, f3⟩ := x
                simp only [Int.toNat_natCast] at h0 h1 h2 h3
                have hik : i < ks.length := by rw [← HKS.out, List.length_map]; omega
                have hik' : (i : Int) < (ks.length : Int) := by omega
                have hlt2' : (i : Int) < (m.length : Int) := by omega
                have HWI := Aside0.mk (show wrap64 ((i : Int) + 1) = ((i + 1 : Nat) : Int) by have := HM1.out; unfold wrap64; omega)
                go_wp2
                have HK4 := Aside0.mk (blk_new wr (.cells #[.int .i64 f0, .int .u64 f1, .string f2, .bool f3] 28))
                have HR7a := Aside0.mk (Kd.R_alloc HR7.out (.cells #[.int .i64 f0, .int .u64 f1, .string f2, .bool f3] 28))
                have HB8a := Aside0.mk (below_alloc HB8.out (.cells #[.int .i64 f0, .int .u64 f1, .string f2, .bool f3] 28))
                generalize wr.alloc (.cells #[.int .i64 f0, .int .u64 f1, .string f2, .bool f3] 28) = w4 at HK4 HR7a HB8a ⊢
                obtain ⟨adk, rfl, hk0⟩ := (show ReadsInt w4 .i64 A5 ks.length ks from Kd.reads_of_C (d := 0) (Kd.C_below HC5c.out HB8a.out)).at_ (i : Int) (by omega) (by omega)
                simp only [Int.toNat_natCast] at hk0
                have hc0 : w4.cell? ⟨wr.heap.size, 0, none⟩ = some (.int .i64 f0) := (blk_cell HK4.out 0).trans rfl
                clear h0 h1 h2 h3
                by_cases kk : f0 = rd ks (i : Int)
                · have kk' : (f0 != rd ks (i : Int)) = false := bne_eq_false_iff_eq.mpr kk
                  have HKK := Aside0.mk kk
                  have HMK2 := Aside0.mk (show (m.take (i + 1)).map (·.f0) = ks.take (i + 1) by rw [HMF.out, HMK.out, take_one ks i hik, ← rd_nat ks i hik, ← kk])
                  clear kk
                  go_quiet (fail)
                  have HK5 := Aside0.mk (blk_drewN HK4.out nq)
                  have HR7b := Aside0.mk (Kd.R_drewN HR7a.out nq)
                  have HB8b := Aside0.mk (pw_below_drewN HB8a.out nq)
                  generalize w4.drewN nq = w5 at HK5 HR7b HB8b ⊢
                  clear hc0 hk0
                  have hc0 : w5.cell? ⟨wr.heap.size, 0, none⟩ = some (.int .i64 f0) := (blk_cell HK5.out 0).trans rfl
                  have hc1 : w5.cell? ⟨wr.heap.size, 1, none⟩ = some (.int .u64 f1) := (blk_cell HK5.out 1).trans rfl
                  have hc2 : w5.cell? ⟨wr.heap.size, 2, none⟩ = some (.string f2) := (blk_cell HK5.out 2).trans rfl
                  have hc3 : w5.cell? ⟨wr.heap.size, 3, none⟩ = some (.bool f3) := (blk_cell HK5.out 3).trans rfl
                  go_wp2_with (first | (go_at_call 6; refine (own_at f0 f1 f2 f3 _).mono ?_; rintro e w9 ⟨rfl, hb9⟩; have HR7c := Aside0.mk (Kd.R_below HR7b.out hb9); have HB9 := Aside0.mk (below_step HB8b.out hb9); clear hb9) | (at_builtin; refine Kd.R_append k28 (w0 := w7) w7.heap.size rfl (.tmp 83) (.tmp 86) 22 28 (.agg #[.int .i64 0, .int .u64 0, .string ⟨#[]⟩, .bool false]) 40 rfl Try.underlying22 (by kernel_rfl) rfl (by decide) (by omega) u7 ((m.take i).map ownF) (ownF ⟨f0, f1, f2, f3⟩) [.int .i64 (ownF ⟨f0, f1, f2, f3⟩).f0, .int .u64 (ownF ⟨f0, f1, f2, f3⟩).f1, .string (ownF ⟨f0, f1, f2, f3⟩).f2, .bool (ownF ⟨f0, f1, f2, f3⟩).f3] (fun _ => True) (fun _ => False) rfl rfl ?aP (fun _ hk => hk.elim) ?aF ?aO ?aB ?aS ?aL ?_; (case aP => exact k28_mkM _ _ _ _); (case aF => exact fun _ _ => trivial); (case aO => exact HR7c.out); (case aB => exact HB9.out); (case aS => exact HB9.out.size); (case aL => have := HI2.out; have := HOM.out.2; rw [List.length_map, List.length_take]; omega); intro v6 w10 ho hb hgr hat; have HR7d := Aside0.mk ho; have HB10 := Aside0.mk hb; clear ho hb hgr hat))
                  go_roundg (m.length - (i + 1))
                  case measure => have := HI2.out; omega
                  case rel => exact ⟨i + 1, by rw [HWI.out], ⟨by omega, rfl⟩, ⟨HMK2.out⟩, ⟨by rw [HMT.out]; exact HR7d.out⟩, ⟨HB10.out⟩⟩
                · have kk' : (f0 != rd ks (i : Int)) = true := bne_iff_ne.mpr kk
                  go_quiet (fail)
                  go_wp2
                  go_ret
                  exact ⟨rfl, below_step HB7.out (pw_below_drewN HB8a.out _)⟩
              · have hI : i = m.length := by have := HI2.out; omega
                subst hI
                have hr7 := HR7.out
                have hmk := HMK.out
                rw [List.take_length] at hr7 hmk
                have hkl : ks.length = m.length := by rw [← HKS.out, List.length_map]; omega
                rw [← hkl, List.take_length] at hmk
                obtain ⟨A9, c9, h9, hl9, hC9⟩ := Kd.R_reads hr7
                subst h9
                have HIF := Aside0.mk (encFs_one HOK.out.1 HOM.out.1 HKN.out (hmk.trans HKS.out.symm))
                generalize m.map ownF = ys at hC9 hl9 HIF
                rw [HXS.out] at HIF
                have HC9 := Aside0.mk hC9
                have HL9 := Aside0.mk hl9
                have HCX := Aside0.mk (Kd.C_below HC6c.out HB8.out)
                have HCM := Aside0.mk (Kd.C_below HC1w.out HB8.out)
                have HCL := Aside0.mk (Kd.C_below HC0w.out HB8.out)
                have HBX := Aside0.mk (below_step HB7.out HB8.out)
                clear hr7 hmk hkl hC9 hl9 HR7 HMK HC6c HC1w HC0w HB8 HB7 HB6 HB5 HB4 HB3 HB2 HB
                by_cases hem : encFs m = encFs l
                · have hxy := HIF.out.1 hem
                  subst hxy
                  have HEM := Aside0.mk hem
                  clear hem
                  go_wp2
                  go_region_with (first | (go_at_call 8; have hq := HB11.out; clear hq; refine (pack_put _ _ l _ (Kd.C_below HCL.out HB11.out) HOK.out.1 (by have := HOK.out.2; omega)).mono ?_; rintro e w12 ⟨v12, rfl, hr12, hb12⟩; obtain ⟨A12, c12, hv12, hl12, hC12⟩ := Kd.R_reads hr12; subst hv12; have hs12 := Kd.C_string (P := Try.prog) (A := A12) (c := c12) Try.underlying33 Try.underlying5 Try.underlying9 hC12; have hs112 := Kd.C_string (P := Try.prog) (A := A11) (c := c11) Try.underlying33 Try.underlying5 Try.underlying9 (Kd.C_below HC11.out hb12); have HC12 := Aside0.mk hC12; have HC112 := Aside0.mk (Kd.C_below HC11.out hb12); have HB12 := Aside0.mk (below_step HB11.out hb12); clear hr12 hb12 hC12 hl12) | (go_at_call 8; refine (pack_put _ _ m _ (Kd.C_below HCM.out (below_drew (Below.refl _ _))) HOM.out.1 (by have := HOM.out.2; omega)).mono ?_; simp only [HEM.out]; rintro e w11 ⟨v11, rfl, hr11, hb11⟩; obtain ⟨A11, c11, hv11, hl11, hC11⟩ := Kd.R_reads hr11; subst hv11; have hs11 := Kd.C_string (P := Try.prog) (A := A11) (c := c11) Try.underlying33 Try.underlying5 Try.underlying9 hC11; have HC11 := Aside0.mk hC11; have HB11 := Aside0.mk (below_step (below_drew (Below.refl _ wr)) hb11); clear hr11 hb11 hC11 hl11) | (go_at_call 9; refine (sameF_calls _ _ _ _ _ _ _ (Kd.C_below HCX.out HB12.out) HL6.out (Kd.C_below HC9.out HB12.out) HL9.out HLX.out).mono ?_; rw [oneF_self]; rintro e w13 ⟨rfl, hd13⟩; have hs1213 := Kd.C_string (P := Try.prog) (A := A12) (c := c12) Try.underlying33 Try.underlying5 Try.underlying9 (Kd.C_below HC12.out hd13.below); have hs1113 := Kd.C_string (P := Try.prog) (A := A11) (c := c11) Try.underlying33 Try.underlying5 Try.underlying9 (Kd.C_below HC112.out hd13.below); have HB13 := Aside0.mk (below_step HB12.out hd13.below); clear hd13))
                  all_goals (
                    go_wp2
                    go_ret
                    exact ⟨by kernel_rfl, below_step HBX.out HB13.out⟩)
                · have hxy : oneF xs ys = false := by
                    rw [← Bool.not_eq_true, oneF_iff]
                    exact fun h => hem (HIF.out.2 h)
                  have HXY := Aside0.mk hxy
                  have hne : ((strOfNums (encFs m)).toList == (strOfNums (encFs l)).toList) = false := beq_eq_false_iff_ne.mpr (fun h => hem ((bytes_eq (encFs_in HOM.out.1) (encFs_in HOK.out.1)).1 h))
                  clear hxy hem
                  go_wp2
                  go_region_with (first | (go_at_call 8; have hq := HB11.out; clear hq; refine (pack_put _ _ l _ (Kd.C_below HCL.out HB11.out) HOK.out.1 (by have := HOK.out.2; omega)).mono ?_; rintro e w12 ⟨v12, rfl, hr12, hb12⟩; obtain ⟨A12, c12, hv12, hl12, hC12⟩ := Kd.R_reads hr12; subst hv12; have hs12 := Kd.C_string (P := Try.prog) (A := A12) (c := c12) Try.underlying33 Try.underlying5 Try.underlying9 hC12; have hs112 := Kd.C_string (P := Try.prog) (A := A11) (c := c11) Try.underlying33 Try.underlying5 Try.underlying9 (Kd.C_below HC11.out hb12); have HC12 := Aside0.mk hC12; have HC112 := Aside0.mk (Kd.C_below HC11.out hb12); have HB12 := Aside0.mk (below_step HB11.out hb12); clear hr12 hb12 hC12 hl12) | (go_at_call 8; refine (pack_put _ _ m _ (Kd.C_below HCM.out (below_drew (Below.refl _ _))) HOM.out.1 (by have := HOM.out.2; omega)).mono ?_; rintro e w11 ⟨v11, rfl, hr11, hb11⟩; obtain ⟨A11, c11, hv11, hl11, hC11⟩ := Kd.R_reads hr11; subst hv11; have hs11 := Kd.C_string (P := Try.prog) (A := A11) (c := c11) Try.underlying33 Try.underlying5 Try.underlying9 hC11; have HC11 := Aside0.mk hC11; have HB11 := Aside0.mk (below_step (below_drew (Below.refl _ wr)) hb11); clear hr11 hb11 hC11 hl11) | (go_at_call 9; refine (sameF_calls _ _ _ _ _ _ _ (Kd.C_below HCX.out HB12.out) HL6.out (Kd.C_below HC9.out HB12.out) HL9.out HLX.out).mono ?_; rw [HXY.out]; rintro e w13 ⟨rfl, hd13⟩; have hs1213 := Kd.C_string (P := Try.prog) (A := A12) (c := c12) Try.underlying33 Try.underlying5 Try.underlying9 (Kd.C_below HC12.out hd13.below); have hs1113 := Kd.C_string (P := Try.prog) (A := A11) (c := c11) Try.underlying33 Try.underlying5 Try.underlying9 (Kd.C_below HC112.out hd13.below); have HB13 := Aside0.mk (below_step HB12.out hd13.below); clear hd13))
                  all_goals (
                    go_wp2
                    go_ret
                    exact ⟨by kernel_rfl, below_step HBX.out HB13.out⟩)
          · have hlm' : ((l.length : Int) != (m.length : Int)) = true := bne_iff_ne.mpr hlm
            go_wp2_with (first | (go_at_call 8; refine (pack_put _ _ l _ (Kd.C_below HC0.out HB4.out) HOK.out.1 (by have := HOK.out.2; omega)).mono ?_; rintro e w5 ⟨v5, rfl, hr5, hb5⟩; obtain ⟨A7, c7, hv7, hl7, hC7⟩ := Kd.R_reads hr5; subst hv7; have HC7 := Aside0.mk hC7; have HC5a := Aside0.mk (Kd.C_below HC5.out hb5); have HC6a := Aside0.mk (Kd.C_below HC6.out hb5); have HB5 := Aside0.mk (below_step HB4.out hb5); clear hr5 hb5 hC7 hl7) | (go_at_call 7; refine (pack_of _ _ _ _ _ _ _ HC7.out HFI.out HC5a.out HK20.out).mono ?_; simp only [HOB.out]; rintro e w6 ⟨v6, rfl, hr6, hb6⟩; obtain ⟨A8, c8, hv8, hl8, hC8⟩ := Kd.R_reads hr6; subst hv8; have HC8 := Aside0.mk hC8; have HL8 := Aside0.mk hl8; have HC5b := Aside0.mk (Kd.C_below HC5a.out hb6); have HC6b := Aside0.mk (Kd.C_below HC6a.out hb6); have HB6 := Aside0.mk (below_step HB5.out hb6); clear hr6 hb6 hC8 hl8) | (go_at_call 9; refine (sameF_calls _ _ _ _ _ _ _ HC8.out HL8.out HC6b.out HL6.out HLX.out).mono ?_; rw [oneF_self]; rintro e w7 ⟨rfl, hd7⟩; have HC5c := Aside0.mk (Kd.C_below HC5b.out hd7.below); have HC6c := Aside0.mk (Kd.C_below HC6b.out hd7.below); have HB7 := Aside0.mk (below_step HB6.out hd7.below); clear hd7))
            go_ret
            exact ⟨rfl, HB7.out⟩
end Go.Proofs.Ytmcgafgmhddliab.Sep
