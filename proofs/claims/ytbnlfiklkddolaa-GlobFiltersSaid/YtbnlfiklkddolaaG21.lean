/- The walk of the law GlobFilters. Printed by gen21.py. Conditions: none beyond the statement's own. -/
import Derived.Test.YtbnlfiklkddolaaG20
import Derived.Test.YtbnlfiklkddolaaReach
namespace Go.Proofs.Ytbnlfiklkddolaa.Sep
set_option linter.unusedSimpArgs false
set_option linter.unusedVariables false
open Go.RowKit Go.Proofs.Ytbnlfiklkddolaa.PCore Go.Proofs.Ytbnlfiklkddolaa.Plain Go.Proofs.YtbnlfiklkddolaaW.PrintWords Go.Proofs.YtbnlfiklkddolaaW.PrintLast Go.Proofs.YtbnlfiklkddolaaW.PrintMore
open Go.Proofs.Ytbnlfiklkddolaa.PDat (S38 k38 z38 rd_T38 at_T38 k38_mkM)
theorem lightE_facts {l : List Entry} (h : lightE l = true) : l.length ≤ 60 ∧ ∀ x ∈ l, x.f0.size ≤ 60 := by
  simp only [lightE, lightX, Bool.and_eq_true, List.all_eq_true, decide_eq_true_eq] at h
  exact ⟨h.2, fun x hx => (h.1 x hx).1⟩
theorem gl_bytes {w : World} {g : Nat} {s : ByteArray} {l : List El} (h : GlAt w g s l) : ∀ x ∈ l, 0 ≤ elC x ∧ elC x < 256 := by
  obtain ⟨A, n, _, _, _, hok, _⟩ := h
  exact fun x hx => (hok x hx).2
theorem filter_no {α : Type} (l : List α) : l.filter (fun _ => false) = [] := by simp
set_option maxHeartbeats 32000000 in
set_option maxRecDepth 100000 in
theorem globFilters_walk (A0 : Option Addr) (c0 : Nat) (l : List S38) (p : ByteArray) (W : World)
    (hC0 : Kd.C k38 W A0 l.length l) (hn0 : l.length ≤ c0) (hm0 : l.length ≤ maxLen) (hw0 : ∀ x ∈ l, ok38 x) (h0 : p.size ≤ 140737488351232) :
    Calls Try.prog 5 #[.slice A0 l.length c0, .string p] W fun e W1 => e = .returned (.bool true) ∧ Below W.heap.size W W1 := by
  have HC := Aside0.mk hC0
  have HCC := Aside0.mk hn0
  have huE := Try.underlying38
  cases hli : lightE l with
  | false =>
    have HLI := Aside0.mk hli
    clear hC0 hn0 hm0 hw0 h0 hli
    go_enter Try.func5, Try.ntmps5
    go_wp2_with (first | (go_at_call 16; refine (light9_calls A0 c0 l _ (Kd.C_below HC.out HB1.out) HCC.out).mono ?_; rw [HLI.out]; rintro e w2 ⟨rfl, hb⟩; have HB2 := Aside0.mk (below_step HB1.out hb); clear hb) | (go_at_call 8; refine (awake31_calls _).mono ?_; rintro e w1 ⟨rfl, hb⟩; have HB1 := Aside0.mk hb; clear hb))
    go_ret
    exact ⟨rfl, HB2.out⟩
  | true =>
    have HLI := Aside0.mk hli
    have HLF := Aside0.mk (lightE_facts hli)
    clear hC0 hn0 hm0 hw0 hli
    by_cases hp : 100 < p.size
    · have d1 : decide ((100 : Int) < (p.size : Int)) = true := decide_eq_true (by omega)
      have d1N : decide (100 < p.size) = true := decide_eq_true hp
      clear hp h0
      go_enter Try.func5, Try.ntmps5
      go_wp2_with (first | (go_at_call 16; refine (light9_calls A0 c0 l _ (Kd.C_below HC.out HB1.out) HCC.out).mono ?_; rw [HLI.out]; rintro e w2 ⟨rfl, hb⟩; have HB2 := Aside0.mk (below_step HB1.out hb); clear hb) | (go_at_call 8; refine (awake31_calls _).mono ?_; rintro e w1 ⟨rfl, hb⟩; have HB1 := Aside0.mk hb; clear hb))
      go_ret
      exact ⟨rfl, HB2.out⟩
    · have d1 : decide ((100 : Int) < (p.size : Int)) = false := decide_eq_false (by omega)
      have d1N : decide (100 < p.size) = false := decide_eq_false hp
      have HP1 := Aside0.mk (show p.size ≤ 100 by omega)
      have HPR := Aside0.mk (show p.size ≤ 1000 by omega)
      cases hpa : pat (bytesOf p) with
      | none =>
        have HPA := Aside0.mk hpa
        clear hp h0 hpa
        go_enter Try.func5, Try.ntmps5
        go_wp2_with (first | (go_at_call 17; refine (filter31_calls (.pointer none) (fun _ => false) A0 c0 l _ (Kd.C_below HC.out HB3.out) HCC.out (Nat.le_trans HLF.out.1 (by decide)) (fun x hx w1 hb => match31_none x.f0 w1)).mono ?_; rw [filter_no]; rintro e w4 ⟨A4, n4, rfl, hC, hn, hb⟩; have HB4 := Aside0.mk (below_step HB3.out hb); clear hC hn hb) | (go_at_call 9; refine (parse_bad HP1.out HPA.out _).mono ?_; rintro e w3 ⟨rfl, hb⟩; have HB3 := Aside0.mk (below_step HB2.out hb); clear hb) | (go_at_call 16; refine (light9_calls A0 c0 l _ (Kd.C_below HC.out HB1.out) HCC.out).mono ?_; rw [HLI.out]; rintro e w2 ⟨rfl, hb⟩; have HB2 := Aside0.mk (below_step HB1.out hb); clear hb) | (go_at_call 8; refine (awake31_calls _).mono ?_; rintro e w1 ⟨rfl, hb⟩; have HB1 := Aside0.mk hb; clear hb))
        go_ret
        exact ⟨by first | rfl | simp, HB4.out⟩
      | some L =>
        have HPA := Aside0.mk hpa
        clear hp h0 hpa
        go_enter Try.func5, Try.ntmps5
        go_upto_region 8 with (first | (go_at_call 9; refine (parse_ok HP1.out HPA.out _).mono ?_; rintro e w3 ⟨g, rfl, hg, hb⟩; have HB3 := Aside0.mk (below_step HB2.out hb); have HG3 := Aside0.mk hg; clear hg hb) | (go_at_call 16; refine (light9_calls A0 c0 l _ (Kd.C_below HC.out HB1.out) HCC.out).mono ?_; rw [HLI.out]; rintro e w2 ⟨rfl, hb⟩; have HB2 := Aside0.mk (below_step HB1.out hb); clear hb) | (go_at_call 8; refine (awake31_calls _).mono ?_; rintro e w1 ⟨rfl, hb⟩; have HB1 := Aside0.mk hb; clear hb))
        have HPIN := Aside0.mk (show ∀ x ∈ prefL L, 0 ≤ x ∧ x < 256 from pref_in L (gl_bytes HG3.out))
        go_wp2
        go_loopg [7, 38] l.length (fun kq v7 v38 w' => ∃ i : Nat, v38 = .int .i64 (i : Int) ∧ Aside0 (i ≤ l.length ∧ kq = l.length - i) ∧ Aside0 (Kd.R k38 38 w' w3.heap.size (fun _ => True) v7 ((l.take i).filter (fun x => mtB L (bytesOf x.f0)))) ∧ Aside0 (Below w3.heap.size w3 w'))
        case atStart => exact ⟨0, rfl, ⟨by omega, by omega⟩, ⟨by rw [List.take_zero]; exact Kd.R_nil _ _ _ _ _⟩, ⟨Below.refl _ _⟩⟩
        case round =>
          rename_i v7 v38
          obtain ⟨i, rfl, HI, HR, HBX⟩ := hrel
          have HB := Aside0.mk (below_step HB3.out HBX.out)
          obtain ⟨ys, hys⟩ : ∃ ys, ys = (l.take i).filter (fun x => mtB L (bytesOf x.f0)) := ⟨_, rfl⟩
          rw [← hys] at HR
          have HYS := Aside0.mk hys
          have HYL := Aside0.mk (show ys.length ≤ 1000 by rw [hys]; have h1 := filter_len (fun x : Entry => mtB L (bytesOf x.f0)) (l.take i); have h2 : (l.take i).length ≤ l.length := by rw [List.length_take]; omega
                                                          have h3 := HLF.out.1; exact Nat.le_trans h1 (Nat.le_trans h2 (Nat.le_trans h3 (by decide))))
          clear hys
          by_cases hlt : i < l.length
          · obtain ⟨ad, hA, h0, h1⟩ := at_T38 (Kd.C_below HC.out HB.out) (i : Int) (by omega) (by omega)
            subst hA
            simp only [Int.toNat_natCast] at h0 h1
            have hx := en_at (l := l) i hlt
            have HF := Aside0.mk (filter_take (fun x : Entry => mtB L (bytesOf x.f0)) l i hlt)
            have HSX := Aside0.mk (HLF.out.2 (l[i]) (List.getElem_mem hlt))
            rw [← hx] at HF HSX
            generalize rd_T38 l (i : Int) = x at h0 h1 HF HSX
            clear hx
            obtain ⟨f0, f1⟩ := x
            simp only at h0 h1
            have hlt' : (i : Int) < (l.length : Int) := by omega
            obtain ⟨i1, hi1⟩ : ∃ z, z = i + 1 := ⟨_, rfl⟩
            have HWI := Aside0.mk (show wrap64 ((i : Int) + 1) = (i1 : Int) by have := HLF.out.1; unfold wrap64; omega)
            have HI1 := Aside0.mk (show i1 = i + 1 ∧ i1 ≤ l.length by omega)
            have HX := Aside0.mk (blk_new wr (.cells #[.string f0, .string f1] 38))
            have HBX1 := Aside0.mk (below_alloc HBX.out (.cells #[.string f0, .string f1] 38))
            have HR1 := Aside0.mk (Kd.R_alloc HR.out (.cells #[.string f0, .string f1] 38))
            have HMX := Aside0.mk (fun w => rmatch_calls p f0 L w HPR.out (show f0.size ≤ 1000 by have h : f0.size ≤ 60 := HSX.out; omega) HPA.out)
            clear hi1 hlt
            cases hf : mtB L (bytesOf f0) with
            | true =>
              rw [hf] at HMX
              have HFE := Aside0.mk (show (l.take i1).filter (fun x => mtB L (bytesOf x.f0)) = ys ++ [⟨f0, f1⟩] by rw [HI1.out.1, HF.out, HYS.out]; simp [hf])
              clear hf
              go_wp2_with (first | (at_builtin; refine Kd.R_append k38 (w0 := w3) w3.heap.size rfl (.tmp 46) (.tmp 48) 34 38 (.agg #[(.string ⟨#[]⟩), (.string ⟨#[]⟩)]) 32 rfl Try.underlying34 (by kernel_rfl) rfl (by decide) (by omega) _ ys ⟨f0, f1⟩ [.string f0, .string f1] (fun _ => True) (fun _ => False) rfl rfl ?aP (fun _ hk => hk.elim) (fun _ _ => trivial) ?aO ?aB ?aS ?aL ?_; (case aP => exact k38_mkM _ _ _ _); (case aO => exact HR2.out); (case aB => exact HBX2.out); (case aS => exact HBX2.out.size); (case aL => have := HYL.out; omega); intro v9 w9 hr hb hg hat; have HR9 := Aside0.mk hr; have HBX9 := Aside0.mk hb; clear hr hb hg hat) | (go_at_call 12; refine (HMX.out _).mono ?_; rintro e w4 ⟨rfl, hb⟩; have hk := blk_below HX.out hb; obtain ⟨x0, x1⟩ := pair_cells hk; have HBX2 := Aside0.mk (below_step HBX1.out hb); have HR2 := Aside0.mk (Kd.R_below HR1.out hb); clear hb hk))
              go_roundg (l.length - i1)
              case measure => have := HI.out; have := HI1.out; omega
              case rel =>
                refine ⟨i1, ?_, ⟨?_⟩, ⟨?_⟩, HBX9⟩
                · first | rfl | (rw [HWI.out]; done) | simp
                · exact ⟨HI1.out.2, rfl⟩
                · rw [HFE.out]; exact HR9.out
            | false =>
              rw [hf] at HMX
              have HFE := Aside0.mk (show (l.take i1).filter (fun x => mtB L (bytesOf x.f0)) = ys by rw [HI1.out.1, HF.out, HYS.out]; simp [hf])
              clear hf
              go_wp2_with (go_at_call 12; refine (HMX.out _).mono ?_; rintro e w4 ⟨rfl, hb⟩; have HBX2 := Aside0.mk (below_step HBX1.out hb); have HR2 := Aside0.mk (Kd.R_below HR1.out hb); clear hb)
              go_roundg (l.length - i1)
              case measure => have := HI.out; have := HI1.out; omega
              case rel =>
                refine ⟨i1, ?_, ⟨?_⟩, ⟨?_⟩, HBX2⟩
                · first | rfl | (rw [HWI.out]; done) | simp
                · exact ⟨HI1.out.2, rfl⟩
                · rw [HFE.out]; exact HR2.out
          · have hI : i = l.length := by have := HI.out; omega
            have hlt' : ¬ (i : Int) < (l.length : Int) := by omega
            have hr := HR.out
            rw [HYS.out, hI, List.take_length] at hr
            obtain ⟨A7, n7, hv, hn, hC⟩ := Kd.R_reads hr
            subst hv
            have HC7 := Aside0.mk hC
            have HN7 := Aside0.mk hn
            have HFC := Aside0.mk (filter31_calls (.pointer (some ⟨g, 0, none⟩)) (fun s => mtB L (bytesOf s)) A0 c0 l wr (Kd.C_below HC.out HB.out) HCC.out (Nat.le_trans HLF.out.1 (by decide)) (fun x hx w1 hb => match31_calls g p L x.f0 w1 (HG3.out.below (below_step HBX.out hb)) (Nat.le_trans (HLF.out.2 x hx) (by decide))))
            have HFM := Aside0.mk (fun x (hx : x ∈ l.filter (fun x : Entry => mtB L (bytesOf x.f0))) => (show mtB L (bytesOf x.f0) = true from (List.mem_filter.1 hx).2))
            obtain ⟨zs, hzs⟩ : ∃ zs, zs = l.filter (fun x : Entry => mtB L (bytesOf x.f0)) := ⟨_, rfl⟩
            rw [← hzs] at HC7 HN7 HFC HFM ⊢
            have HZL := Aside0.mk (show zs.length ≤ 60 by rw [hzs]; exact Nat.le_trans (filter_len _ _) HLF.out.1)
            clear hI hlt hr hC hn HR hzs HYS HYL
            go_wp2_with (go_at_call 17; refine HFC.out.mono ?_; rintro e w8 ⟨A8, n8, rfl, hC, hn, hb⟩; have HC8 := Aside0.mk hC; have HN8 := Aside0.mk hn; have HB8 := Aside0.mk (below_step HB.out hb); have HBX8 := Aside0.mk (below_step HBX.out hb); have HC78 := Aside0.mk (Kd.C_below HC7.out hb); clear hC hn hb)
            clear hlt' HFC HC7
            go_loopg [56] zs.length (fun kq v56 w' => ∃ i : Nat, v56 = .int .i64 (i : Int) ∧ Aside0 (i ≤ zs.length ∧ kq = zs.length - i) ∧ Aside0 (Below w8.heap.size w8 w'))
            case atStart => exact ⟨0, rfl, ⟨by omega, by omega⟩, ⟨Below.refl _ _⟩⟩
            case round =>
              obtain ⟨i, rfl, HI2, HBY⟩ := hrel
              by_cases hlt : i < zs.length
              · obtain ⟨ad, hA, h0, h1⟩ := at_T38 (Kd.C_below HC8.out HBY.out) (i : Int) (by omega) (by omega)
                subst hA
                simp only [Int.toNat_natCast] at h0 h1
                have hx := en_at (l := zs) i hlt
                have HMX := Aside0.mk (HFM.out (zs[i]) (List.getElem_mem hlt))
                rw [← hx] at HMX
                generalize rd_T38 zs (i : Int) = x at h0 h1 HMX
                clear hx
                obtain ⟨f0, f1⟩ := x
                simp only at h0 h1
                obtain ⟨pf, hpf⟩ : ∃ pf, pf = strOfNums (prefL L) := ⟨_, rfl⟩
                have hps : pf.size = (prefL L).length := by rw [hpf]; exact str_size _
                have hpb := pref_bytes HPIN.out (s := f0) HMX.out
                rw [← hps, ← hpf] at hpb
                have HPF := Aside0.mk hpf
                have hlt' : (i : Int) < (zs.length : Int) := by omega
                obtain ⟨i1, hi1⟩ : ∃ z, z = i + 1 := ⟨_, rfl⟩
                have HWI := Aside0.mk (show wrap64 ((i : Int) + 1) = (i1 : Int) by have := HZL.out; unfold wrap64; omega)
                have HI1 := Aside0.mk (show i1 = i + 1 ∧ i1 ≤ zs.length by omega)
                have HX := Aside0.mk (blk_new wr (.cells #[.string f0, .string f1] 38))
                have HBY1 := Aside0.mk (below_alloc HBY.out (.cells #[.string f0, .string f1] 38))
                have g1 : ¬ (f0.size : Int) < (pf.size : Int) := by have := hpb.1; omega
                have g2 : decide ((f0.size : Int) < (pf.size : Int)) = false := decide_eq_false g1
                have g2N : decide (f0.size < pf.size) = false := decide_eq_false (by have := hpb.1; omega)
                have g3 : (pf.size : Int) ≤ (f0.size : Int) := by have := hpb.1; omega
                have g3N : pf.size ≤ f0.size := hpb.1
                have g4 : f0.extract 0 pf.size = pf := hpb.2
                clear hi1 hlt hpf hps hpb
                go_upto_region 20 with (go_at_call 13; refine (prefix31_calls g p L _ (HG3.out.below (below_step HBX8.out HBY1.out))).mono ?_; rw [← HPF.out]; rintro e w5 ⟨rfl, hb⟩; have hk := blk_below HX.out hb; have HX5 := Aside0.mk hk; have HBY5 := Aside0.mk (below_step HBY1.out hb); clear hb hk)
                obtain ⟨x0, x1⟩ := pair_cells HX5.out
                have x0r := Reach.cell x0
                have HPC := Aside0.mk (fun u : Reach w5 => prefix31_calls g p L u.out (HG3.out.below (below_step HBX8.out (below_step HBY5.out u.bel))))
                rw [← HPF.out] at HPC
                refine region_reach (by kernel_rfl) (by kernel_rfl) ?_
                repeat (go_big_quiet_step ((go_at_call 13; exact calls_reach _ (HPC.out _))))
                refine wpQuiet_nil ?_
                rintro _ ⟨⟨w6, hb6⟩, rfl⟩
                have HBY6 := Aside0.mk (below_step HBY5.out hb6)
                clear hb6 x0 x1 x0r HPC
                go_wp2
                go_roundg (zs.length - i1)
                case measure => have := HI2.out; have := HI1.out; omega
                case rel =>
                  refine ⟨i1, ?_, ⟨?_⟩, HBY6⟩
                  · first | rfl | (rw [HWI.out]; done) | simp
                  · exact ⟨HI1.out.2, rfl⟩
              · have e1 : decide ((i : Int) < (zs.length : Int)) = false := decide_eq_false (by omega)
                have e2 : decide (i < zs.length) = false := decide_eq_false hlt
                clear hlt d1 d1N huE
                go_wp2_with (go_at_call 18; refine (sameE_calls A8 n8 zs A7 n7 zs _ (Kd.C_below HC8.out HBY.out) HN8.out (Kd.C_below HC78.out HBY.out) HN7.out).mono ?_; rw [oneL_self]; rintro e w9 ⟨rfl, m, rfl⟩)
                go_ret
                exact ⟨rfl, pw_below_drewN (below_step HB8.out HBY.out) m⟩
end Go.Proofs.Ytbnlfiklkddolaa.Sep
