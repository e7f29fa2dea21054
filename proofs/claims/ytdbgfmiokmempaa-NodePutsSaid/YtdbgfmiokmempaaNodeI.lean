/- Which nodes may be: the walk of the reference's Node. Printed by gen21.py. Conditions: the bounds of the statements. · A node's bytes: the walk of the reference's PutNode. Printed by gen22.py. Conditions: the bounds of the statements. · What the reference's NodeOf tells is what node.Of tells: plain. Conditions: the bounds of the statements. · A node told of bytes: the walk of the reference's NodeOf. Printed by gen24.py. Conditions: the bounds of the statements. -/
import Derived.Test.YtdbgfmiokmempaaNodeG
import Derived.Test.YtdbgfmiokmempaaReach
import Derived.Test.YtdbgfmiokmempaaRefPut2
import Derived.Deep.RegionHeld3
import Derived.Test.YtdbgfmiokmempaaRefReader
namespace Go.Proofs.Ytdbgfmiokmempaa.Sep
set_option linter.unusedSimpArgs false
set_option linter.unusedVariables false
open Go.RowKit Go.Proofs.Ytdbgfmiokmempaa.PCore Go.Proofs.Ytdbgfmiokmempaa.Plain Go.Proofs.YtdbgfmiokmempaaW.PrintWords Go.Proofs.YtdbgfmiokmempaaW.PrintLast Go.Proofs.YtdbgfmiokmempaaW.PrintMore
open Go.Proofs.Ytdbgfmiokmempaa.PDat (S27 k27 z27 rd_T27 at_T27 S60 k60 z60 rd_T60 at_T60)
open Ends (endsB)
theorem nod3_cells {w : World} {g t : Nat} {a b c : Value} (h : w.heap[g]? = some (.cells #[a, b, c] t (0, 0))) : w.cell? ⟨g, 0, none⟩ = some a ∧ w.cell? ⟨g, 1, none⟩ = some b ∧ w.cell? ⟨g, 2, none⟩ = some c :=
  ⟨(blk_cell h 0).trans rfl, (blk_cell h 1).trans rfl, (blk_cell h 2).trans rfl⟩
theorem two_cells {w : World} {g t : Nat} {a b : Value} (h : w.heap[g]? = some (.cells #[a, b] t (0, 0))) : w.cell? ⟨g, 0, none⟩ = some a ∧ w.cell? ⟨g, 1, none⟩ = some b :=
  ⟨(blk_cell h 0).trans rfl, (blk_cell h 1).trans rfl⟩
theorem entsE_key {x : Entry} {l : List Entry} (h : keyE x.f0 ≠ 0) : entsE (x :: l) = keyE x.f0 := by unfold entsE; rw [if_neg h]
theorem entsE_val {x : Entry} {l : List Entry} (h : keyE x.f0 = 0) (h2 : valE x.f1 ≠ 0) : entsE (x :: l) = valE x.f1 := by unfold entsE; rw [if_pos h, if_neg h2]
theorem entsE_ok {x : Entry} {l : List Entry} (h : keyE x.f0 = 0) (h2 : valE x.f1 = 0) : entsE (x :: l) = entsE l := by conv => lhs; unfold entsE; rw [if_pos h, if_pos h2]
theorem kidsE_key {x : Kid} {l : List Kid} (h : keyE x.f0 ≠ 0) : kidsE (x :: l) = keyE x.f0 := by unfold kidsE; rw [if_neg h]
theorem kidsE_ok {x : Kid} {l : List Kid} (h : keyE x.f0 = 0) : kidsE (x :: l) = kidsE l := by conv => lhs; unfold kidsE; rw [if_pos h]
theorem textsE_ents {es : List Entry} {ks : List Kid} (h : entsE es ≠ 0) : textsE es ks = entsE es := by unfold textsE; rw [if_neg h]
theorem textsE_kids {es : List Entry} {ks : List Kid} (h : entsE es = 0) : textsE es ks = kidsE ks := by unfold textsE; rw [if_pos h]
theorem st_E {T : List Nat} (h : 9 ∉ T) : ∀ q, q ∈ 9 :: (Kd.string).E → q ∉ T := fun q hq => by
  have e : q = 9 := by simpa [Kd.string, Kd.scalar] using hq
  rw [e]
  exact h
set_option maxHeartbeats 32000000 in
set_option maxRecDepth 100000 in
theorem rnode_calls (lev : Int) (A0 : Option Addr) (c0 : Nat) (es : List Entry) (A1 : Option Addr) (c1 : Nat) (ks : List Kid) (W : World) (hC0 : Kd.C k27 W A0 es.length es) (hc0 : es.length ≤ c0) (hC1 : Kd.C k60 W A1 ks.length ks) (hc1 : ks.length ≤ c1) (hn0 : es.length ≤ 1000000) (hn1 : ks.length ≤ 1000000) :
    Calls Try.prog 26 #[.agg #[.int .i64 lev, .slice A0 es.length c0, .slice A1 ks.length c1]] W fun e W1 => e = .returned (.int .i64 (nodeE lev es ks)) ∧ Below W.heap.size W W1 := by
  have HC0 := Aside0.mk hC0
  have HC1 := Aside0.mk hC1
  have HN0 := Aside0.mk hn0
  have HN1 := Aside0.mk hn1
  have HKL := Aside0.mk (keysL_len es ks)
  clear hC0 hc0 hC1 hc1 hn0 hn1
  have huF := Try.underlying34
  have huE := Try.underlying27
  have huK := Try.underlying60
  go_enter Try.func26, Try.ntmps26
  go_wp2
  have hk0 := blk_new W (.cells #[.int .i64 lev, .slice A0 es.length c0, .slice A1 ks.length c1] 34)
  have HB0 := Aside0.mk (below_alloc (Below.refl W.heap.size W) (.cells #[.int .i64 lev, .slice A0 es.length c0, .slice A1 ks.length c1] 34))
  generalize W.alloc (.cells #[.int .i64 lev, .slice A0 es.length c0, .slice A1 ks.length c1] 34) = w0 at hk0 HB0 ⊢
  generalize W.heap.size = gN at hk0 ⊢
  have HK0 := Aside0.mk hk0
  clear hk0
  go_loopg [3, 19] es.length (fun kq v3 v19 w' => ∃ i : Nat, v19 = .int .i64 i ∧ Aside0 (i ≤ es.length ∧ kq = es.length - i) ∧ Aside0 (entsE es = entsE (es.drop i)) ∧ Aside0 (Kd.R Kd.string 9 w' w0.heap.size (fun _ => True) v3 ((es.take i).map (·.f0))) ∧ Aside0 (Below w0.heap.size w0 w'))
  case atStart => exact ⟨0, rfl, ⟨by omega, by omega⟩, ⟨rfl⟩, ⟨Kd.R_nil _ _ _ _ _⟩, ⟨Below.refl _ _⟩⟩
  case round =>
    obtain ⟨i, rfl, HI, HE, HR, HB⟩ := hrel
    obtain ⟨Ak, nk, ck, hvk⟩ := R_slice' HR.out
    subst hvk
    by_cases hlt : i < es.length
    · obtain ⟨ad, rfl, h0, h1⟩ := at_T27 (Kd.C_below HC0.out (below_step HB0.out HB.out)) (i : Int) (by omega) (by omega)
      simp only [Int.toNat_natCast] at h0 h1
      have hE := HE.out
      rw [en_drop es i hlt] at hE
      have hT : (es.take (i + 1)).map (·.f0) = (es.take i).map (·.f0) ++ [(rd_T27 es (i : Int)).f0] := by rw [take_one es i hlt, List.map_append, en_at i hlt]; rfl
      generalize rd_T27 es (i : Int) = x at h0 h1 hE hT
      obtain ⟨f0, f1⟩ := x
      simp only at h0 h1 hT
      have HE2 := Aside0.mk hE
      have HTT := Aside0.mk hT
      clear hE hT HE
      have hlt' : (i : Int) < (es.length : Int) := by omega
      have HWI := Aside0.mk (show wrap64 ((i : Int) + 1) = ((i + 1 : Nat) : Int) by have := HN0.out; unfold wrap64; omega)
      have HLN := Aside0.mk (show ((es.take i).map (·.f0)).length ≤ 1000000 by rw [List.length_map, List.length_take]; have := HN0.out; omega)
      by_cases hk : keyE f0 = 0
      · have HKE := Aside0.mk hk
        by_cases hv : valE f1 = 0
        · have HVE := Aside0.mk hv
          have HG := Aside0.mk (show entsE es = entsE (es.drop (i + 1)) by rw [HE2.out, entsE_ok hk hv])
          clear hk hv
          go_wp2_with (first | (go_at_call 18; refine (rkey_calls f0 _).mono ?_; rw [HKE.out]; rintro e w2 ⟨rfl, hb⟩; have HB2 := Aside0.mk (below_step (below_alloc HB.out (.cells #[.string f0, .string f1] 27)) hb); have hv2 := (Fr.of_below (B := 0) (T := []) hb).blk (blk_new wr (.cells #[.string f0, .string f1] 27)) (by simp); have HV2 := Aside0.mk hv2; obtain ⟨v0, v1⟩ := two_cells hv2; have HR2 := Aside0.mk (Kd.R_below (Kd.R_alloc HR.out (.cells #[.string f0, .string f1] 27)) hb); clear hb hv2) | (go_at_call 20; refine (rval_calls f1 _).mono ?_; rw [HVE.out]; rintro e w3 ⟨rfl, hb⟩; have HB3 := Aside0.mk (below_step HB2.out hb); have hv3 := (Fr.of_below (B := 0) (T := []) hb).blk HV2.out (by simp); obtain ⟨z0, z1⟩ := two_cells hv3; have HR3 := Aside0.mk (Kd.R_below HR2.out hb); clear hb hv3) | (at_builtin; refine Kd.R_append Kd.string (w0 := w0) w0.heap.size rfl (.tmp 35) (.tmp 38) 81 9 (.string ⟨#[]⟩) 16 rfl Try.underlying81 (by kernel_rfl) rfl (by decide) (by omega) (.slice Ak nk ck) ((es.take i).map (·.f0)) f0 [.string f0] (fun _ => True) (fun _ => False) rfl rfl ?aP (fun _ hk => hk.elim) (fun _ _ => trivial) ?aO ?aB ?aS ?aL ?_; (case aP => rfl); (case aO => exact HR3.out); (case aB => exact HB3.out); (case aS => exact HB3.out.size); (case aL => have := HLN.out; omega); intro v5 w5 hr hb hg hat; have HR5 := Aside0.mk hr; have HB5 := Aside0.mk hb; clear hr hb hg hat))
          go_roundg (es.length - (i + 1))
          case measure => have := HI.out; omega
          case rel => exact ⟨i + 1, by rw [HWI.out], ⟨by omega, rfl⟩, ⟨HG.out⟩, ⟨by rw [HTT.out]; exact HR5.out⟩, ⟨HB5.out⟩⟩
        · have HG := Aside0.mk (show nodeE lev es ks = valE f1 by rw [nodeE_texts (by rw [textsE_ents (by rw [HE2.out, entsE_val hk hv]; exact hv), HE2.out, entsE_val hk hv]; exact hv), textsE_ents (by rw [HE2.out, entsE_val hk hv]; exact hv), HE2.out, entsE_val hk hv])
          have hv' : (valE f1 != 0) = true := bne_iff_ne.mpr hv
          clear hk hv
          go_wp2_with (first | (go_at_call 18; refine (rkey_calls f0 _).mono ?_; rw [HKE.out]; rintro e w2 ⟨rfl, hb⟩; have HB2 := Aside0.mk (below_step (below_alloc HB.out (.cells #[.string f0, .string f1] 27)) hb); have hv2 := (Fr.of_below (B := 0) (T := []) hb).blk (blk_new wr (.cells #[.string f0, .string f1] 27)) (by simp); have HV2 := Aside0.mk hv2; obtain ⟨v0, v1⟩ := two_cells hv2; have HR2 := Aside0.mk (Kd.R_below (Kd.R_alloc HR.out (.cells #[.string f0, .string f1] 27)) hb); clear hb hv2) | (go_at_call 20; refine (rval_calls f1 _).mono ?_; rintro e w3 ⟨rfl, hb⟩; have HB3 := Aside0.mk (below_step HB2.out hb); have hv3 := (Fr.of_below (B := 0) (T := []) hb).blk HV2.out (by simp); obtain ⟨z0, z1⟩ := two_cells hv3; have HR3 := Aside0.mk (Kd.R_below HR2.out hb); clear hb hv3))
          go_ret
          rw [HG.out]
          exact ⟨rfl, below_step HB0.out HB3.out⟩
      · have HG := Aside0.mk (show nodeE lev es ks = keyE f0 by rw [nodeE_texts (by rw [textsE_ents (by rw [HE2.out, entsE_key hk]; exact hk), HE2.out, entsE_key hk]; exact hk), textsE_ents (by rw [HE2.out, entsE_key hk]; exact hk), HE2.out, entsE_key hk])
        have hk' : (keyE f0 != 0) = true := bne_iff_ne.mpr hk
        clear hk
        go_wp2_with ((go_at_call 18; refine (rkey_calls f0 _).mono ?_; rintro e w2 ⟨rfl, hb⟩; have HB2 := Aside0.mk (below_step (below_alloc HB.out (.cells #[.string f0, .string f1] 27)) hb); have hv2 := (Fr.of_below (B := 0) (T := []) hb).blk (blk_new wr (.cells #[.string f0, .string f1] 27)) (by simp); have HV2 := Aside0.mk hv2; obtain ⟨v0, v1⟩ := two_cells hv2; have HR2 := Aside0.mk (Kd.R_below (Kd.R_alloc HR.out (.cells #[.string f0, .string f1] 27)) hb); clear hb hv2))
        go_ret
        rw [HG.out]
        exact ⟨rfl, below_step HB0.out HB2.out⟩
    · have hI : i = es.length := by have := HI.out; omega
      subst hI
      have HE0 := Aside0.mk (show entsE es = 0 by rw [HE.out, List.drop_length]; rfl)
      have hr := HR.out
      rw [List.take_length] at hr
      have HRe := Aside0.mk hr
      have hk3 := (Fr.of_below (B := 0) (T := []) HB.out).blk HK0.out (by simp)
      have a2 : World.cell? wr ⟨gN, 2, none⟩ = some (.slice A1 ks.length c1) := (blk_cell hk3 2).trans rfl
      have HB5 := Aside0.mk HB.out
      clear hr hk3 HE HB HR HI
      go_wp2
      go_loopg [3, 44] ks.length (fun kq v3 v44 w' => ∃ i : Nat, v44 = .int .i64 i ∧ Aside0 (i ≤ ks.length ∧ kq = ks.length - i) ∧ Aside0 (kidsE ks = kidsE (ks.drop i)) ∧ Aside0 (Kd.R Kd.string 9 w' w0.heap.size (fun _ => True) v3 (es.map (·.f0) ++ (ks.take i).map (·.f0))) ∧ Aside0 (Below w0.heap.size w0 w'))
      case atStart => exact ⟨0, rfl, ⟨by omega, by omega⟩, ⟨rfl⟩, ⟨by simpa using HRe.out⟩, ⟨HB5.out⟩⟩
      case round =>
        clear HRe HB5 a2
        obtain ⟨i, rfl, HI, HE, HR, HB⟩ := hrel
        obtain ⟨Ak, nk, ck, hvk⟩ := R_slice' HR.out
        subst hvk
        by_cases hlt : i < ks.length
        · obtain ⟨ad, rfl, h0, h1⟩ := at_T60 (Kd.C_below HC1.out (below_step HB0.out HB.out)) (i : Int) (by omega) (by omega)
          simp only [Int.toNat_natCast] at h0 h1
          have hE := HE.out
          rw [ki_drop ks i hlt] at hE
          have hT : (ks.take (i + 1)).map (·.f0) = (ks.take i).map (·.f0) ++ [(rd_T60 ks (i : Int)).f0] := by rw [take_one ks i hlt, List.map_append, ki_at i hlt]; rfl
          generalize rd_T60 ks (i : Int) = x at h0 h1 hE hT
          obtain ⟨f0, f1⟩ := x
          simp only at h0 h1 hT
          have HE2 := Aside0.mk hE
          have HTT := Aside0.mk hT
          clear hE hT HE
          have hlt' : (i : Int) < (ks.length : Int) := by omega
          have HWI := Aside0.mk (show wrap64 ((i : Int) + 1) = ((i + 1 : Nat) : Int) by have := HN1.out; unfold wrap64; omega)
          have HLN := Aside0.mk (show (es.map (·.f0) ++ (ks.take i).map (·.f0)).length ≤ 2000000 by rw [List.length_append, List.length_map, List.length_map, List.length_take]; have := HN0.out; have := HN1.out; omega)
          by_cases hk : keyE f0 = 0
          · have HKE := Aside0.mk hk
            have HG := Aside0.mk (show kidsE ks = kidsE (ks.drop (i + 1)) by rw [HE2.out, kidsE_ok hk])
            clear hk
            go_wp2_with (first | (go_at_call 18; refine (rkey_calls f0 _).mono ?_; rw [HKE.out]; rintro e w2 ⟨rfl, hb⟩; have HB2 := Aside0.mk (below_step (below_alloc HB.out (.cells #[.string f0, .int .u64 f1] 60)) hb); have hv2 := (Fr.of_below (B := 0) (T := []) hb).blk (blk_new wr (.cells #[.string f0, .int .u64 f1] 60)) (by simp); have HV2 := Aside0.mk hv2; obtain ⟨v0, v1⟩ := two_cells hv2; have HR2 := Aside0.mk (Kd.R_below (Kd.R_alloc HR.out (.cells #[.string f0, .int .u64 f1] 60)) hb); clear hb hv2) | (at_builtin; refine Kd.R_append Kd.string (w0 := w0) w0.heap.size rfl (.tmp 54) (.tmp 57) 81 9 (.string ⟨#[]⟩) 16 rfl Try.underlying81 (by kernel_rfl) rfl (by decide) (by omega) (.slice Ak nk ck) (es.map (·.f0) ++ (ks.take i).map (·.f0)) f0 [.string f0] (fun _ => True) (fun _ => False) rfl rfl ?aP (fun _ hk => hk.elim) (fun _ _ => trivial) ?aO ?aB ?aS ?aL ?_; (case aP => rfl); (case aO => exact HR2.out); (case aB => exact HB2.out); (case aS => exact HB2.out.size); (case aL => have := HLN.out; omega); intro v5 w5 hr hb hg hat; have HR5 := Aside0.mk hr; have HB5 := Aside0.mk hb; clear hr hb hg hat))
            go_roundg (ks.length - (i + 1))
            case measure => have := HI.out; omega
            case rel => exact ⟨i + 1, by rw [HWI.out], ⟨by omega, rfl⟩, ⟨HG.out⟩, ⟨by rw [HTT.out, ← List.append_assoc]; exact HR5.out⟩, ⟨HB5.out⟩⟩
          · have HG := Aside0.mk (show nodeE lev es ks = keyE f0 by rw [nodeE_texts (by rw [textsE_kids HE0.out, HE2.out, kidsE_key hk]; exact hk), textsE_kids HE0.out, HE2.out, kidsE_key hk])
            have hk' : (keyE f0 != 0) = true := bne_iff_ne.mpr hk
            clear hk
            go_wp2_with ((go_at_call 18; refine (rkey_calls f0 _).mono ?_; rintro e w2 ⟨rfl, hb⟩; have HB2 := Aside0.mk (below_step (below_alloc HB.out (.cells #[.string f0, .int .u64 f1] 60)) hb); have hv2 := (Fr.of_below (B := 0) (T := []) hb).blk (blk_new wr (.cells #[.string f0, .int .u64 f1] 60)) (by simp); have HV2 := Aside0.mk hv2; obtain ⟨v0, v1⟩ := two_cells hv2; have HR2 := Aside0.mk (Kd.R_below (Kd.R_alloc HR.out (.cells #[.string f0, .int .u64 f1] 60)) hb); clear hb hv2))
            go_ret
            rw [HG.out]
            exact ⟨rfl, below_step HB0.out HB2.out⟩
        · have hI : i = ks.length := by have := HI.out; omega
          subst hI
          have HTX := Aside0.mk (show textsE es ks = 0 by rw [textsE_kids HE0.out, HE.out, List.drop_length]; rfl)
          have hr := HR.out
          rw [List.take_length] at hr
          obtain ⟨hnk, hck, hCk⟩ := Kd.R_reads' hr
          have hnk2 : nk = (keysL es ks).length := hnk
          subst hnk2
          have HC2 := Aside0.mk (show Kd.C Kd.string wr Ak (keysL es ks).length (keysL es ks) from hCk)
          have HB2 := Aside0.mk (below_step HB0.out HB.out)
          have hk3 := (Fr.of_below (B := 0) (T := []) HB.out).blk HK0.out (by simp)
          have HK2 := Aside0.mk hk3
          obtain ⟨a0, a1, a2⟩ := nod3_cells hk3
          have HKI := Aside0.mk (keysL_in HTX.out)
          clear hr hck hCk hk3 HR HE HE0 hnk HI
          by_cases hzk : ks.length = 0
          · have ek : ((ks.length : Int) == 0) = true := beq_iff_eq.mpr (by omega)
            have ek' : (ks.length == 0) = true := beq_iff_eq.mpr (by omega)
            have gk : decide ((0 : Int) < (ks.length : Int)) = false := decide_eq_false (by omega)
            have gk' : decide (0 < ks.length) = false := decide_eq_false (by omega)
            by_cases hze : es.length = 0
            · have ee : ((es.length : Int) == 0) = true := beq_iff_eq.mpr (by omega)
              have ee' : (es.length == 0) = true := beq_iff_eq.mpr (by omega)
              have ge : decide ((0 : Int) < (es.length : Int)) = false := decide_eq_false (by omega)
              have ge' : decide (0 < es.length) = false := decide_eq_false (by omega)
              rcases (show lev < 0 ∨ lev = 0 ∨ (0 < lev ∧ lev ≤ 20) ∨ 20 < lev by omega) with hlv | hlv | hlv | hlv
              · have l0 : (lev == 0) = false := beq_eq_false_iff_ne.mpr (by omega)
                have l1 : decide (0 < lev) = false := decide_eq_false (by omega)
                have HG := Aside0.mk (nodeE_shape (lev := lev) HTX.out (by rw [← Bool.not_eq_true]; intro h; simp only [shapeB] at h; split at h <;> simp only [Bool.and_eq_true, decide_eq_true_eq] at h <;> first | omega | exact absurd h (by simp [hzk, hze])))
                clear hlv hzk hze
                go_wp2
                go_ret
                rw [HG.out]
                exact ⟨rfl, HB2.out⟩
              · subst hlv
                have hlv := HTX.out
                have HG := Aside0.mk (nodeE_shape (lev := 0) HTX.out (by rw [← Bool.not_eq_true]; intro h; simp only [shapeB] at h; split at h <;> simp only [Bool.and_eq_true, decide_eq_true_eq] at h <;> first | omega | exact absurd h (by simp [hzk, hze])))
                clear hlv hzk hze
                go_wp2
                go_ret
                rw [HG.out]
                exact ⟨rfl, HB2.out⟩
              · have l0 : (lev == 0) = false := beq_eq_false_iff_ne.mpr (by omega)
                have l1 : decide (0 < lev) = true := decide_eq_true (by omega)
                have l2 : decide (lev ≤ 20) = true := decide_eq_true (by omega)
                have HG := Aside0.mk (nodeE_shape (lev := lev) HTX.out (by rw [← Bool.not_eq_true]; intro h; simp only [shapeB] at h; split at h <;> simp only [Bool.and_eq_true, decide_eq_true_eq] at h <;> first | omega | exact absurd h (by simp [hzk, hze])))
                clear hlv hzk hze
                go_wp2
                go_ret
                rw [HG.out]
                exact ⟨rfl, HB2.out⟩
              · have l0 : (lev == 0) = false := beq_eq_false_iff_ne.mpr (by omega)
                have l1 : decide (0 < lev) = true := decide_eq_true (by omega)
                have l2 : decide (lev ≤ 20) = false := decide_eq_false (by omega)
                have HG := Aside0.mk (nodeE_shape (lev := lev) HTX.out (by rw [← Bool.not_eq_true]; intro h; simp only [shapeB] at h; split at h <;> simp only [Bool.and_eq_true, decide_eq_true_eq] at h <;> first | omega | exact absurd h (by simp [hzk, hze])))
                clear hlv hzk hze
                go_wp2
                go_ret
                rw [HG.out]
                exact ⟨rfl, HB2.out⟩
            · have ee : ((es.length : Int) == 0) = false := beq_eq_false_iff_ne.mpr (by omega)
              have ee' : (es.length == 0) = false := beq_eq_false_iff_ne.mpr (by omega)
              have ge : decide ((0 : Int) < (es.length : Int)) = true := decide_eq_true (by omega)
              have ge' : decide (0 < es.length) = true := decide_eq_true (by omega)
              rcases (show lev < 0 ∨ lev = 0 ∨ (0 < lev ∧ lev ≤ 20) ∨ 20 < lev by omega) with hlv | hlv | hlv | hlv
              · have l0 : (lev == 0) = false := beq_eq_false_iff_ne.mpr (by omega)
                have l1 : decide (0 < lev) = false := decide_eq_false (by omega)
                have HG := Aside0.mk (nodeE_shape (lev := lev) HTX.out (by rw [← Bool.not_eq_true]; intro h; simp only [shapeB] at h; split at h <;> simp only [Bool.and_eq_true, decide_eq_true_eq] at h <;> first | omega | exact absurd h (by simp [hzk, hze])))
                clear hlv hzk hze
                go_wp2
                go_ret
                rw [HG.out]
                exact ⟨rfl, HB2.out⟩
              · subst hlv
                have hlv := HTX.out
                have HSH := Aside0.mk (show shapeB 0 es.length ks.length = true by simp only [shapeB]; split <;> simp only [Bool.and_eq_true, decide_eq_true_eq] <;> first | omega | (refine ⟨?_, ?_, ?_⟩ <;> first | rfl | omega | trivial))
                clear hlv hzk hze
                have HKC := Aside0.mk (show (keysL es ks).length ≤ 2000000 by have := HKL.out; have := HN0.out; have := HN1.out; omega)
                go_wp2
                generalize hl9 : keysL es ks = l at HKI HC2 HKC ⊢
                have HLE := Aside0.mk hl9
                clear hl9 HKL
                have HBz := Aside0.mk HB2.out
                generalize wr = wz at HC2 HB2 HBz HK2 HB a0 a1 a2 ⊢
                go_loopg [103] l.length (fun kq v103 w' => ∃ i : Nat, v103 = .int .i64 i ∧ Aside0 (i ≤ l.length ∧ kq = l.length - i) ∧ Aside0 (riseB 0 none l = riseB 0 (prevS l i) (l.drop i)) ∧ Aside0 (Below wz.heap.size wz w'))
                case atStart => exact ⟨0, rfl, ⟨by omega, by omega⟩, ⟨rfl⟩, ⟨Below.refl _ _⟩⟩
                case round =>
                  clear a0 a1 a2 HB
                  obtain ⟨i, rfl, HI, HE, HB⟩ := hrel
                  by_cases hlt : i < l.length
                  · obtain ⟨ad, rfl, h0⟩ := Kd.at_string (Kd.C_below HC2.out HB.out) (i : Int) (by omega) (by omega)
                    have hE := HE.out
                    rw [st_drop l i hlt] at hE
                    have hin := HKI.out _ (List.getElem_mem hlt)
                    rw [← st_at i hlt] at hin
                    have HE2 := Aside0.mk hE
                    have HPS := Aside0.mk (prevS_succ l i)
                    have hk3 := (Fr.of_below (B := 0) (T := []) HB.out).blk HK2.out (by simp)
                    have a0 : World.cell? wr ⟨gN, 0, none⟩ = some (.int .i64 0) := (blk_cell hk3 0).trans rfl
                    have a0d : World.cell? wr.drew ⟨gN, 0, none⟩ = some (.int .i64 0) := a0
                    clear hE HE hk3
                    simp only [Int.toNat_natCast] at h0
                    generalize hc : rdOf ByteArray.empty l (i : Int) = key at h0 HE2 HPS hin
                    clear hc
                    have h0d : World.cell? wr.drew (ad.add i) = some (.string key) := h0
                    have HKZ := Aside0.mk (show key.size ≤ 140737488355328 by omega)
                    clear hin
                    have hlt' : (i : Int) < (l.length : Int) := by omega
                    obtain ⟨q, hq⟩ : ∃ q : Nat, q = i + 1 := ⟨_, rfl⟩
                    have hwq : wrap64 ((i : Int) + 1) = (q : Int) := by have := HKC.out; unfold wrap64; omega
                    have hwq2 : IntKind.i64.wrap ((i : Int) + 1) = (q : Int) := by first | exact hwq | (rw [i64_w]; exact hwq)
                    have HQ := Aside0.mk hq
                    clear hq
                    obtain ⟨m, hm⟩ : ∃ m : Nat, l.length = m + 1 := ⟨l.length - 1, by omega⟩
                    have HM := Aside0.mk hm
                    clear hm
                    by_cases hi : i = 0
                    · have hi' : decide ((0 : Int) < (i : Int)) = false := decide_eq_false (by omega)
                      have hiN : decide (0 < i) = false := decide_eq_false (by omega)
                      have HST := Aside0.mk (show riseB 0 none l = (((l.drop (i + 1)).isEmpty || !endsB 0 key) && riseB 0 (some key) (l.drop (i + 1))) by rw [HE2.out, prevS, if_pos hi, rise_none])
                      clear hi HE2
                      by_cases hla : i < m
                      · have g1 : decide ((q : Int) < (l.length : Int)) = true := decide_eq_true (by have := HM.out; have := HQ.out; omega)
                        have g2 : decide (q < l.length) = true := decide_eq_true (by have := HM.out; have := HQ.out; omega)
                        have HEM := Aside0.mk (drop_full HM.out hla)
                        clear hla
                        cases hen : endsB 0 key with
                        | true =>
                          have HEN := Aside0.mk hen
                          have HG := Aside0.mk (nodeE_rise (lev := 0) HTX.out (by rw [HLE.out, HST.out, HEM.out, hen]; rfl))
                          clear hen
                          go_wp2
                          have HENDS := Aside0.mk (fun w => rends_calls 0 key w HKZ.out)
                          rw [HEN.out] at HENDS
                          have h0r := Reach.cell h0
                          have a0r := Reach.cell a0
                          refine region_reach (by kernel_rfl) (by kernel_rfl) ?_
                          repeat (go_big_quiet_step ((go_at_call 9; exact calls_reach _ (HENDS.out _))))
                          refine wpQuiet_nil ?_
                          rintro _ ⟨⟨w4, hb4⟩, rfl⟩
                          have HB4 := Aside0.mk (below_step HB.out hb4)
                          clear hb4 h0r a0r
                          go_wp2
                          go_ret
                          rw [HG.out]
                          exact ⟨rfl, below_step HBz.out HB4.out⟩
                        | false =>
                          have HEN := Aside0.mk hen
                          have HG := Aside0.mk (show riseB 0 none l = riseB 0 (some key) (l.drop (i + 1)) by rw [HST.out, hen]; simp)
                          clear hen
                          go_wp2
                          have HENDS := Aside0.mk (fun w => rends_calls 0 key w HKZ.out)
                          rw [HEN.out] at HENDS
                          have h0r := Reach.cell h0
                          have a0r := Reach.cell a0
                          refine region_reach (by kernel_rfl) (by kernel_rfl) ?_
                          repeat (go_big_quiet_step ((go_at_call 9; exact calls_reach _ (HENDS.out _))))
                          refine wpQuiet_nil ?_
                          rintro _ ⟨⟨w4, hb4⟩, rfl⟩
                          have HB4 := Aside0.mk (below_step HB.out hb4)
                          clear hb4 h0r a0r
                          go_wp2
                          go_roundg (l.length - (i + 1))
                          case measure => have := HI.out; omega
                          case rel => exact ⟨q, rfl, ⟨by have := HQ.out; omega, by have := HQ.out; omega⟩, ⟨by rw [HQ.out, HPS.out]; exact HG.out⟩, ⟨HB4.out⟩⟩
                      · have g1 : decide ((q : Int) < (l.length : Int)) = false := decide_eq_false (by have := HM.out; have := HQ.out; omega)
                        have g2 : decide (q < l.length) = false := decide_eq_false (by have := HM.out; have := HQ.out; omega)
                        have HEM := Aside0.mk (drop_empty HM.out hla)
                        have HG := Aside0.mk (show riseB 0 none l = riseB 0 (some key) (l.drop (i + 1)) by rw [HST.out, HEM.out]; simp)
                        clear hla
                        go_wp2
                        go_quiet (fail)
                        go_wp2
                        go_roundg (l.length - (i + 1))
                        case measure => have := HI.out; omega
                        case rel => exact ⟨q, rfl, ⟨by have := HQ.out; omega, by have := HQ.out; omega⟩, ⟨by rw [HQ.out, HPS.out]; exact HG.out⟩, ⟨pw_below_drewN HB.out _⟩⟩
                    · obtain ⟨j, hj⟩ : ∃ j : Nat, i = j + 1 := ⟨i - 1, by omega⟩
                      have hi' : decide ((0 : Int) < (i : Int)) = true := decide_eq_true (by omega)
                      have hiN : decide (0 < i) = true := decide_eq_true (by omega)
                      have hwj : wrap64 ((i : Int) - 1) = (j : Int) := by have := HKC.out; unfold wrap64; omega
                      have hwj2 : IntKind.i64.wrap ((i : Int) - 1) = (j : Int) := by first | exact hwj | (rw [i64_w]; exact hwj)
                      have hjl : (j : Int) < (l.length : Int) := by omega
                      obtain ⟨ad', had, k0⟩ := Kd.at_string (Kd.C_below HC2.out HB.out) (j : Int) (by omega) (by omega)
                      obtain rfl : ad = ad' := by injection had
                      simp only [Int.toNat_natCast] at k0
                      have HPV := Aside0.mk (show prevS l i = some (rdOf ByteArray.empty l (j : Int)) by rw [hj, prevS_succ])
                      generalize rdOf ByteArray.empty l (j : Int) = q0 at k0 HPV
                      have k0d : World.cell? wr.drew (ad.add j) = some (.string q0) := k0
                      cases hless : lessK q0 key with
                      | true =>
                        have HST := Aside0.mk (show riseB 0 none l = (((l.drop (i + 1)).isEmpty || !endsB 0 key) && riseB 0 (some key) (l.drop (i + 1))) by rw [HE2.out, HPV.out, rise_some _ _ _ _ hless])
                        have hl' : Op.bytesLess q0.toList key.toList = true := hless
                        have hge : ∀ w, (binOp .geq 9 (.string q0) (.string key)).run Try.prog w = .ok (.bool false) w := fun w => by rw [str_geq, hl']; rfl
                        clear hi hj hless HE2 HPV had
                        by_cases hla : i < m
                        · have g1 : decide ((q : Int) < (l.length : Int)) = true := decide_eq_true (by have := HM.out; have := HQ.out; omega)
                          have g2 : decide (q < l.length) = true := decide_eq_true (by have := HM.out; have := HQ.out; omega)
                          have HEM := Aside0.mk (drop_full HM.out hla)
                          clear hla
                          cases hen : endsB 0 key with
                          | true =>
                            have HEN := Aside0.mk hen
                            have HG := Aside0.mk (nodeE_rise (lev := 0) HTX.out (by rw [HLE.out, HST.out, HEM.out, hen]; rfl))
                            clear hen
                            go_wp2
                            have HENDS := Aside0.mk (fun w => rends_calls 0 key w HKZ.out)
                            rw [HEN.out] at HENDS
                            have h0r := Reach.cell h0
                            have a0r := Reach.cell a0
                            have k0r := Reach.cell k0
                            refine region_reach (by kernel_rfl) (by kernel_rfl) ?_
                            repeat (go_big_quiet_step ((go_at_call 9; exact calls_reach _ (HENDS.out _))))
                            refine wpQuiet_nil ?_
                            rintro _ ⟨⟨w4, hb4⟩, rfl⟩
                            have HB4 := Aside0.mk (below_step HB.out hb4)
                            clear hb4 h0r a0r k0r
                            go_wp2
                            go_ret
                            rw [HG.out]
                            exact ⟨rfl, below_step HBz.out HB4.out⟩
                          | false =>
                            have HEN := Aside0.mk hen
                            have HG := Aside0.mk (show riseB 0 none l = riseB 0 (some key) (l.drop (i + 1)) by rw [HST.out, hen]; simp)
                            clear hen
                            go_wp2
                            have HENDS := Aside0.mk (fun w => rends_calls 0 key w HKZ.out)
                            rw [HEN.out] at HENDS
                            have h0r := Reach.cell h0
                            have a0r := Reach.cell a0
                            have k0r := Reach.cell k0
                            refine region_reach (by kernel_rfl) (by kernel_rfl) ?_
                            repeat (go_big_quiet_step ((go_at_call 9; exact calls_reach _ (HENDS.out _))))
                            refine wpQuiet_nil ?_
                            rintro _ ⟨⟨w4, hb4⟩, rfl⟩
                            have HB4 := Aside0.mk (below_step HB.out hb4)
                            clear hb4 h0r a0r k0r
                            go_wp2
                            go_roundg (l.length - (i + 1))
                            case measure => have := HI.out; omega
                            case rel => exact ⟨q, rfl, ⟨by have := HQ.out; omega, by have := HQ.out; omega⟩, ⟨by rw [HQ.out, HPS.out]; exact HG.out⟩, ⟨HB4.out⟩⟩
                        · have g1 : decide ((q : Int) < (l.length : Int)) = false := decide_eq_false (by have := HM.out; have := HQ.out; omega)
                          have g2 : decide (q < l.length) = false := decide_eq_false (by have := HM.out; have := HQ.out; omega)
                          have HEM := Aside0.mk (drop_empty HM.out hla)
                          have HG := Aside0.mk (show riseB 0 none l = riseB 0 (some key) (l.drop (i + 1)) by rw [HST.out, HEM.out]; simp)
                          clear hla
                          go_wp2
                          go_quiet (fail)
                          go_wp2
                          go_roundg (l.length - (i + 1))
                          case measure => have := HI.out; omega
                          case rel => exact ⟨q, rfl, ⟨by have := HQ.out; omega, by have := HQ.out; omega⟩, ⟨by rw [HQ.out, HPS.out]; exact HG.out⟩, ⟨pw_below_drewN HB.out _⟩⟩
                      | false =>
                        have HG := Aside0.mk (nodeE_rise (lev := 0) HTX.out (by rw [HLE.out, HE2.out, HPV.out, rise_bad _ _ _ _ hless]))
                        have hl' : Op.bytesLess q0.toList key.toList = false := hless
                        have hge : ∀ w, (binOp .geq 9 (.string q0) (.string key)).run Try.prog w = .ok (.bool true) w := fun w => by rw [str_geq, hl']; rfl
                        clear hi hj hless HE2 HPV had
                        go_wp2
                        go_quiet (fail)
                        go_wp2
                        go_ret
                        rw [HG.out]
                        exact ⟨rfl, pw_below_drewN (below_step HBz.out HB.out) _⟩
                  · have hI : i = l.length := by have := HI.out; omega
                    subst hI
                    have HRS := Aside0.mk (show riseB 0 none (keysL es ks) = true by rw [HLE.out, HE.out, List.drop_length]; rfl)
                    have hk3 := (Fr.of_below (B := 0) (T := []) HB.out).blk HK2.out (by simp)
                    have a2 : World.cell? wr ⟨gN, 2, none⟩ = some (.slice A1 ks.length c1) := (blk_cell hk3 2).trans rfl
                    have HB5 := Aside0.mk (below_step HBz.out HB.out)
                    clear hk3 HE HB
                    go_wp2
                    go_loopg [140] ks.length (fun kq v140 w' => ∃ i : Nat, v140 = .int .i64 i ∧ Aside0 (i ≤ ks.length ∧ kq = ks.length - i) ∧ Aside0 (idsB (ks.take i) = true) ∧ Aside0 (Below W.heap.size W w'))
                    case atStart => exact ⟨0, rfl, ⟨by omega, by omega⟩, ⟨rfl⟩, ⟨HB5.out⟩⟩
                    case round =>
                      obtain ⟨i, rfl, HI, HE, HB⟩ := hrel
                      by_cases hlt : i < ks.length
                      · obtain ⟨ad, rfl, h0, h1⟩ := at_T60 (Kd.C_below HC1.out HB.out) (i : Int) (by omega) (by omega)
                        simp only [Int.toNat_natCast] at h0 h1
                        have HTK := Aside0.mk (all_take ks i hlt)
                        have HBD := Aside0.mk (all_bad ks i hlt)
                        generalize rd_T60 ks (i : Int) = x at h0 h1 HTK HBD
                        obtain ⟨f0, f1⟩ := x
                        simp only at h0 h1
                        have hlt' : (i : Int) < (ks.length : Int) := by omega
                        have HWI := Aside0.mk (show wrap64 ((i : Int) + 1) = ((i + 1 : Nat) : Int) by have := HN1.out; unfold wrap64; omega)
                        by_cases hz : f1 = 0
                        · have HG := Aside0.mk (nodeE_ids (lev := 0) HTX.out (HBD.out hz))
                          have hz' : (f1 == 0) = true := beq_iff_eq.mpr hz
                          clear hz
                          go_wp2
                          go_ret
                          rw [HG.out]
                          exact ⟨rfl, below_alloc HB.out _⟩
                        · have HG := Aside0.mk (show idsB (ks.take (i + 1)) = true by rw [HTK.out, HE.out]; simpa using hz)
                          have hz' : (f1 == 0) = false := beq_eq_false_iff_ne.mpr hz
                          clear hz
                          go_wp2
                          go_roundg (ks.length - (i + 1))
                          case measure => have := HI.out; omega
                          case rel => exact ⟨i + 1, by rw [HWI.out], ⟨by omega, rfl⟩, ⟨HG.out⟩, ⟨below_alloc HB.out _⟩⟩
                      · have hI : i = ks.length := by have := HI.out; omega
                        subst hI
                        have hE := HE.out
                        rw [List.take_length] at hE
                        have HG := Aside0.mk (nodeE_ok (lev := 0) HTX.out HSH.out HRS.out hE)
                        clear hE
                        go_wp2
                        go_ret
                        rw [HG.out]
                        exact ⟨rfl, HB.out⟩
              · have l0 : (lev == 0) = false := beq_eq_false_iff_ne.mpr (by omega)
                have l1 : decide (0 < lev) = true := decide_eq_true (by omega)
                have l2 : decide (lev ≤ 20) = true := decide_eq_true (by omega)
                have HG := Aside0.mk (nodeE_shape (lev := lev) HTX.out (by rw [← Bool.not_eq_true]; intro h; simp only [shapeB] at h; split at h <;> simp only [Bool.and_eq_true, decide_eq_true_eq] at h <;> first | omega | exact absurd h (by simp [hzk, hze])))
                clear hlv hzk hze
                go_wp2
                go_ret
                rw [HG.out]
                exact ⟨rfl, HB2.out⟩
              · have l0 : (lev == 0) = false := beq_eq_false_iff_ne.mpr (by omega)
                have l1 : decide (0 < lev) = true := decide_eq_true (by omega)
                have l2 : decide (lev ≤ 20) = false := decide_eq_false (by omega)
                have HG := Aside0.mk (nodeE_shape (lev := lev) HTX.out (by rw [← Bool.not_eq_true]; intro h; simp only [shapeB] at h; split at h <;> simp only [Bool.and_eq_true, decide_eq_true_eq] at h <;> first | omega | exact absurd h (by simp [hzk, hze])))
                clear hlv hzk hze
                go_wp2
                go_ret
                rw [HG.out]
                exact ⟨rfl, HB2.out⟩
          · have ek : ((ks.length : Int) == 0) = false := beq_eq_false_iff_ne.mpr (by omega)
            have ek' : (ks.length == 0) = false := beq_eq_false_iff_ne.mpr (by omega)
            have gk : decide ((0 : Int) < (ks.length : Int)) = true := decide_eq_true (by omega)
            have gk' : decide (0 < ks.length) = true := decide_eq_true (by omega)
            by_cases hze : es.length = 0
            · have ee : ((es.length : Int) == 0) = true := beq_iff_eq.mpr (by omega)
              have ee' : (es.length == 0) = true := beq_iff_eq.mpr (by omega)
              have ge : decide ((0 : Int) < (es.length : Int)) = false := decide_eq_false (by omega)
              have ge' : decide (0 < es.length) = false := decide_eq_false (by omega)
              rcases (show lev < 0 ∨ lev = 0 ∨ (0 < lev ∧ lev ≤ 20) ∨ 20 < lev by omega) with hlv | hlv | hlv | hlv
              · have l0 : (lev == 0) = false := beq_eq_false_iff_ne.mpr (by omega)
                have l1 : decide (0 < lev) = false := decide_eq_false (by omega)
                have HG := Aside0.mk (nodeE_shape (lev := lev) HTX.out (by rw [← Bool.not_eq_true]; intro h; simp only [shapeB] at h; split at h <;> simp only [Bool.and_eq_true, decide_eq_true_eq] at h <;> first | omega | exact absurd h (by simp [hzk, hze])))
                clear hlv hzk hze
                go_wp2
                go_ret
                rw [HG.out]
                exact ⟨rfl, HB2.out⟩
              · subst hlv
                have hlv := HTX.out
                have HG := Aside0.mk (nodeE_shape (lev := 0) HTX.out (by rw [← Bool.not_eq_true]; intro h; simp only [shapeB] at h; split at h <;> simp only [Bool.and_eq_true, decide_eq_true_eq] at h <;> first | omega | exact absurd h (by simp [hzk, hze])))
                clear hlv hzk hze
                go_wp2
                go_ret
                rw [HG.out]
                exact ⟨rfl, HB2.out⟩
              · have l0 : (lev == 0) = false := beq_eq_false_iff_ne.mpr (by omega)
                have l1 : decide (0 < lev) = true := decide_eq_true (by omega)
                have l2 : decide (lev ≤ 20) = true := decide_eq_true (by omega)
                have HSH := Aside0.mk (show shapeB lev es.length ks.length = true by simp only [shapeB]; split <;> simp only [Bool.and_eq_true, decide_eq_true_eq] <;> first | omega | (refine ⟨?_, ?_, ?_⟩ <;> first | rfl | omega | trivial))
                clear hlv hzk hze
                have HKC := Aside0.mk (show (keysL es ks).length ≤ 2000000 by have := HKL.out; have := HN0.out; have := HN1.out; omega)
                go_wp2
                generalize hl9 : keysL es ks = l at HKI HC2 HKC ⊢
                have HLE := Aside0.mk hl9
                clear hl9 HKL
                have HBz := Aside0.mk HB2.out
                generalize wr = wz at HC2 HB2 HBz HK2 HB a0 a1 a2 ⊢
                go_loopg [103] l.length (fun kq v103 w' => ∃ i : Nat, v103 = .int .i64 i ∧ Aside0 (i ≤ l.length ∧ kq = l.length - i) ∧ Aside0 (riseB lev none l = riseB lev (prevS l i) (l.drop i)) ∧ Aside0 (Below wz.heap.size wz w'))
                case atStart => exact ⟨0, rfl, ⟨by omega, by omega⟩, ⟨rfl⟩, ⟨Below.refl _ _⟩⟩
                case round =>
                  clear a0 a1 a2 HB
                  obtain ⟨i, rfl, HI, HE, HB⟩ := hrel
                  by_cases hlt : i < l.length
                  · obtain ⟨ad, rfl, h0⟩ := Kd.at_string (Kd.C_below HC2.out HB.out) (i : Int) (by omega) (by omega)
                    have hE := HE.out
                    rw [st_drop l i hlt] at hE
                    have hin := HKI.out _ (List.getElem_mem hlt)
                    rw [← st_at i hlt] at hin
                    have HE2 := Aside0.mk hE
                    have HPS := Aside0.mk (prevS_succ l i)
                    have hk3 := (Fr.of_below (B := 0) (T := []) HB.out).blk HK2.out (by simp)
                    have a0 : World.cell? wr ⟨gN, 0, none⟩ = some (.int .i64 lev) := (blk_cell hk3 0).trans rfl
                    have a0d : World.cell? wr.drew ⟨gN, 0, none⟩ = some (.int .i64 lev) := a0
                    clear hE HE hk3
                    simp only [Int.toNat_natCast] at h0
                    generalize hc : rdOf ByteArray.empty l (i : Int) = key at h0 HE2 HPS hin
                    clear hc
                    have h0d : World.cell? wr.drew (ad.add i) = some (.string key) := h0
                    have HKZ := Aside0.mk (show key.size ≤ 140737488355328 by omega)
                    clear hin
                    have hlt' : (i : Int) < (l.length : Int) := by omega
                    obtain ⟨q, hq⟩ : ∃ q : Nat, q = i + 1 := ⟨_, rfl⟩
                    have hwq : wrap64 ((i : Int) + 1) = (q : Int) := by have := HKC.out; unfold wrap64; omega
                    have hwq2 : IntKind.i64.wrap ((i : Int) + 1) = (q : Int) := by first | exact hwq | (rw [i64_w]; exact hwq)
                    have HQ := Aside0.mk hq
                    clear hq
                    obtain ⟨m, hm⟩ : ∃ m : Nat, l.length = m + 1 := ⟨l.length - 1, by omega⟩
                    have HM := Aside0.mk hm
                    clear hm
                    by_cases hi : i = 0
                    · have hi' : decide ((0 : Int) < (i : Int)) = false := decide_eq_false (by omega)
                      have hiN : decide (0 < i) = false := decide_eq_false (by omega)
                      have HST := Aside0.mk (show riseB lev none l = (((l.drop (i + 1)).isEmpty || !endsB lev key) && riseB lev (some key) (l.drop (i + 1))) by rw [HE2.out, prevS, if_pos hi, rise_none])
                      clear hi HE2
                      by_cases hla : i < m
                      · have g1 : decide ((q : Int) < (l.length : Int)) = true := decide_eq_true (by have := HM.out; have := HQ.out; omega)
                        have g2 : decide (q < l.length) = true := decide_eq_true (by have := HM.out; have := HQ.out; omega)
                        have HEM := Aside0.mk (drop_full HM.out hla)
                        clear hla
                        cases hen : endsB lev key with
                        | true =>
                          have HEN := Aside0.mk hen
                          have HG := Aside0.mk (nodeE_rise (lev := lev) HTX.out (by rw [HLE.out, HST.out, HEM.out, hen]; rfl))
                          clear hen
                          go_wp2
                          have HENDS := Aside0.mk (fun w => rends_calls lev key w HKZ.out)
                          rw [HEN.out] at HENDS
                          have h0r := Reach.cell h0
                          have a0r := Reach.cell a0
                          refine region_reach (by kernel_rfl) (by kernel_rfl) ?_
                          repeat (go_big_quiet_step ((go_at_call 9; exact calls_reach _ (HENDS.out _))))
                          refine wpQuiet_nil ?_
                          rintro _ ⟨⟨w4, hb4⟩, rfl⟩
                          have HB4 := Aside0.mk (below_step HB.out hb4)
                          clear hb4 h0r a0r
                          go_wp2
                          go_ret
                          rw [HG.out]
                          exact ⟨rfl, below_step HBz.out HB4.out⟩
                        | false =>
                          have HEN := Aside0.mk hen
                          have HG := Aside0.mk (show riseB lev none l = riseB lev (some key) (l.drop (i + 1)) by rw [HST.out, hen]; simp)
                          clear hen
                          go_wp2
                          have HENDS := Aside0.mk (fun w => rends_calls lev key w HKZ.out)
                          rw [HEN.out] at HENDS
                          have h0r := Reach.cell h0
                          have a0r := Reach.cell a0
                          refine region_reach (by kernel_rfl) (by kernel_rfl) ?_
                          repeat (go_big_quiet_step ((go_at_call 9; exact calls_reach _ (HENDS.out _))))
                          refine wpQuiet_nil ?_
                          rintro _ ⟨⟨w4, hb4⟩, rfl⟩
                          have HB4 := Aside0.mk (below_step HB.out hb4)
                          clear hb4 h0r a0r
                          go_wp2
                          go_roundg (l.length - (i + 1))
                          case measure => have := HI.out; omega
                          case rel => exact ⟨q, rfl, ⟨by have := HQ.out; omega, by have := HQ.out; omega⟩, ⟨by rw [HQ.out, HPS.out]; exact HG.out⟩, ⟨HB4.out⟩⟩
                      · have g1 : decide ((q : Int) < (l.length : Int)) = false := decide_eq_false (by have := HM.out; have := HQ.out; omega)
                        have g2 : decide (q < l.length) = false := decide_eq_false (by have := HM.out; have := HQ.out; omega)
                        have HEM := Aside0.mk (drop_empty HM.out hla)
                        have HG := Aside0.mk (show riseB lev none l = riseB lev (some key) (l.drop (i + 1)) by rw [HST.out, HEM.out]; simp)
                        clear hla
                        go_wp2
                        go_quiet (fail)
                        go_wp2
                        go_roundg (l.length - (i + 1))
                        case measure => have := HI.out; omega
                        case rel => exact ⟨q, rfl, ⟨by have := HQ.out; omega, by have := HQ.out; omega⟩, ⟨by rw [HQ.out, HPS.out]; exact HG.out⟩, ⟨pw_below_drewN HB.out _⟩⟩
                    · obtain ⟨j, hj⟩ : ∃ j : Nat, i = j + 1 := ⟨i - 1, by omega⟩
                      have hi' : decide ((0 : Int) < (i : Int)) = true := decide_eq_true (by omega)
                      have hiN : decide (0 < i) = true := decide_eq_true (by omega)
                      have hwj : wrap64 ((i : Int) - 1) = (j : Int) := by have := HKC.out; unfold wrap64; omega
                      have hwj2 : IntKind.i64.wrap ((i : Int) - 1) = (j : Int) := by first | exact hwj | (rw [i64_w]; exact hwj)
                      have hjl : (j : Int) < (l.length : Int) := by omega
                      obtain ⟨ad', had, k0⟩ := Kd.at_string (Kd.C_below HC2.out HB.out) (j : Int) (by omega) (by omega)
                      obtain rfl : ad = ad' := by injection had
                      simp only [Int.toNat_natCast] at k0
                      have HPV := Aside0.mk (show prevS l i = some (rdOf ByteArray.empty l (j : Int)) by rw [hj, prevS_succ])
                      generalize rdOf ByteArray.empty l (j : Int) = q0 at k0 HPV
                      have k0d : World.cell? wr.drew (ad.add j) = some (.string q0) := k0
                      cases hless : lessK q0 key with
                      | true =>
                        have HST := Aside0.mk (show riseB lev none l = (((l.drop (i + 1)).isEmpty || !endsB lev key) && riseB lev (some key) (l.drop (i + 1))) by rw [HE2.out, HPV.out, rise_some _ _ _ _ hless])
                        have hl' : Op.bytesLess q0.toList key.toList = true := hless
                        have hge : ∀ w, (binOp .geq 9 (.string q0) (.string key)).run Try.prog w = .ok (.bool false) w := fun w => by rw [str_geq, hl']; rfl
                        clear hi hj hless HE2 HPV had
                        by_cases hla : i < m
                        · have g1 : decide ((q : Int) < (l.length : Int)) = true := decide_eq_true (by have := HM.out; have := HQ.out; omega)
                          have g2 : decide (q < l.length) = true := decide_eq_true (by have := HM.out; have := HQ.out; omega)
                          have HEM := Aside0.mk (drop_full HM.out hla)
                          clear hla
                          cases hen : endsB lev key with
                          | true =>
                            have HEN := Aside0.mk hen
                            have HG := Aside0.mk (nodeE_rise (lev := lev) HTX.out (by rw [HLE.out, HST.out, HEM.out, hen]; rfl))
                            clear hen
                            go_wp2
                            have HENDS := Aside0.mk (fun w => rends_calls lev key w HKZ.out)
                            rw [HEN.out] at HENDS
                            have h0r := Reach.cell h0
                            have a0r := Reach.cell a0
                            have k0r := Reach.cell k0
                            refine region_reach (by kernel_rfl) (by kernel_rfl) ?_
                            repeat (go_big_quiet_step ((go_at_call 9; exact calls_reach _ (HENDS.out _))))
                            refine wpQuiet_nil ?_
                            rintro _ ⟨⟨w4, hb4⟩, rfl⟩
                            have HB4 := Aside0.mk (below_step HB.out hb4)
                            clear hb4 h0r a0r k0r
                            go_wp2
                            go_ret
                            rw [HG.out]
                            exact ⟨rfl, below_step HBz.out HB4.out⟩
                          | false =>
                            have HEN := Aside0.mk hen
                            have HG := Aside0.mk (show riseB lev none l = riseB lev (some key) (l.drop (i + 1)) by rw [HST.out, hen]; simp)
                            clear hen
                            go_wp2
                            have HENDS := Aside0.mk (fun w => rends_calls lev key w HKZ.out)
                            rw [HEN.out] at HENDS
                            have h0r := Reach.cell h0
                            have a0r := Reach.cell a0
                            have k0r := Reach.cell k0
                            refine region_reach (by kernel_rfl) (by kernel_rfl) ?_
                            repeat (go_big_quiet_step ((go_at_call 9; exact calls_reach _ (HENDS.out _))))
                            refine wpQuiet_nil ?_
                            rintro _ ⟨⟨w4, hb4⟩, rfl⟩
                            have HB4 := Aside0.mk (below_step HB.out hb4)
                            clear hb4 h0r a0r k0r
                            go_wp2
                            go_roundg (l.length - (i + 1))
                            case measure => have := HI.out; omega
                            case rel => exact ⟨q, rfl, ⟨by have := HQ.out; omega, by have := HQ.out; omega⟩, ⟨by rw [HQ.out, HPS.out]; exact HG.out⟩, ⟨HB4.out⟩⟩
                        · have g1 : decide ((q : Int) < (l.length : Int)) = false := decide_eq_false (by have := HM.out; have := HQ.out; omega)
                          have g2 : decide (q < l.length) = false := decide_eq_false (by have := HM.out; have := HQ.out; omega)
                          have HEM := Aside0.mk (drop_empty HM.out hla)
                          have HG := Aside0.mk (show riseB lev none l = riseB lev (some key) (l.drop (i + 1)) by rw [HST.out, HEM.out]; simp)
                          clear hla
                          go_wp2
                          go_quiet (fail)
                          go_wp2
                          go_roundg (l.length - (i + 1))
                          case measure => have := HI.out; omega
                          case rel => exact ⟨q, rfl, ⟨by have := HQ.out; omega, by have := HQ.out; omega⟩, ⟨by rw [HQ.out, HPS.out]; exact HG.out⟩, ⟨pw_below_drewN HB.out _⟩⟩
                      | false =>
                        have HG := Aside0.mk (nodeE_rise (lev := lev) HTX.out (by rw [HLE.out, HE2.out, HPV.out, rise_bad _ _ _ _ hless]))
                        have hl' : Op.bytesLess q0.toList key.toList = false := hless
                        have hge : ∀ w, (binOp .geq 9 (.string q0) (.string key)).run Try.prog w = .ok (.bool true) w := fun w => by rw [str_geq, hl']; rfl
                        clear hi hj hless HE2 HPV had
                        go_wp2
                        go_quiet (fail)
                        go_wp2
                        go_ret
                        rw [HG.out]
                        exact ⟨rfl, pw_below_drewN (below_step HBz.out HB.out) _⟩
                  · have hI : i = l.length := by have := HI.out; omega
                    subst hI
                    have HRS := Aside0.mk (show riseB lev none (keysL es ks) = true by rw [HLE.out, HE.out, List.drop_length]; rfl)
                    have hk3 := (Fr.of_below (B := 0) (T := []) HB.out).blk HK2.out (by simp)
                    have a2 : World.cell? wr ⟨gN, 2, none⟩ = some (.slice A1 ks.length c1) := (blk_cell hk3 2).trans rfl
                    have HB5 := Aside0.mk (below_step HBz.out HB.out)
                    clear hk3 HE HB
                    go_wp2
                    go_loopg [140] ks.length (fun kq v140 w' => ∃ i : Nat, v140 = .int .i64 i ∧ Aside0 (i ≤ ks.length ∧ kq = ks.length - i) ∧ Aside0 (idsB (ks.take i) = true) ∧ Aside0 (Below W.heap.size W w'))
                    case atStart => exact ⟨0, rfl, ⟨by omega, by omega⟩, ⟨rfl⟩, ⟨HB5.out⟩⟩
                    case round =>
                      obtain ⟨i, rfl, HI, HE, HB⟩ := hrel
                      by_cases hlt : i < ks.length
                      · obtain ⟨ad, rfl, h0, h1⟩ := at_T60 (Kd.C_below HC1.out HB.out) (i : Int) (by omega) (by omega)
                        simp only [Int.toNat_natCast] at h0 h1
                        have HTK := Aside0.mk (all_take ks i hlt)
                        have HBD := Aside0.mk (all_bad ks i hlt)
                        generalize rd_T60 ks (i : Int) = x at h0 h1 HTK HBD
                        obtain ⟨f0, f1⟩ := x
                        simp only at h0 h1
                        have hlt' : (i : Int) < (ks.length : Int) := by omega
                        have HWI := Aside0.mk (show wrap64 ((i : Int) + 1) = ((i + 1 : Nat) : Int) by have := HN1.out; unfold wrap64; omega)
                        by_cases hz : f1 = 0
                        · have HG := Aside0.mk (nodeE_ids (lev := lev) HTX.out (HBD.out hz))
                          have hz' : (f1 == 0) = true := beq_iff_eq.mpr hz
                          clear hz
                          go_wp2
                          go_ret
                          rw [HG.out]
                          exact ⟨rfl, below_alloc HB.out _⟩
                        · have HG := Aside0.mk (show idsB (ks.take (i + 1)) = true by rw [HTK.out, HE.out]; simpa using hz)
                          have hz' : (f1 == 0) = false := beq_eq_false_iff_ne.mpr hz
                          clear hz
                          go_wp2
                          go_roundg (ks.length - (i + 1))
                          case measure => have := HI.out; omega
                          case rel => exact ⟨i + 1, by rw [HWI.out], ⟨by omega, rfl⟩, ⟨HG.out⟩, ⟨below_alloc HB.out _⟩⟩
                      · have hI : i = ks.length := by have := HI.out; omega
                        subst hI
                        have hE := HE.out
                        rw [List.take_length] at hE
                        have HG := Aside0.mk (nodeE_ok (lev := lev) HTX.out HSH.out HRS.out hE)
                        clear hE
                        go_wp2
                        go_ret
                        rw [HG.out]
                        exact ⟨rfl, HB.out⟩
              · have l0 : (lev == 0) = false := beq_eq_false_iff_ne.mpr (by omega)
                have l1 : decide (0 < lev) = true := decide_eq_true (by omega)
                have l2 : decide (lev ≤ 20) = false := decide_eq_false (by omega)
                have HG := Aside0.mk (nodeE_shape (lev := lev) HTX.out (by rw [← Bool.not_eq_true]; intro h; simp only [shapeB] at h; split at h <;> simp only [Bool.and_eq_true, decide_eq_true_eq] at h <;> first | omega | exact absurd h (by simp [hzk, hze])))
                clear hlv hzk hze
                go_wp2
                go_ret
                rw [HG.out]
                exact ⟨rfl, HB2.out⟩
            · have ee : ((es.length : Int) == 0) = false := beq_eq_false_iff_ne.mpr (by omega)
              have ee' : (es.length == 0) = false := beq_eq_false_iff_ne.mpr (by omega)
              have ge : decide ((0 : Int) < (es.length : Int)) = true := decide_eq_true (by omega)
              have ge' : decide (0 < es.length) = true := decide_eq_true (by omega)
              rcases (show lev < 0 ∨ lev = 0 ∨ (0 < lev ∧ lev ≤ 20) ∨ 20 < lev by omega) with hlv | hlv | hlv | hlv
              · have l0 : (lev == 0) = false := beq_eq_false_iff_ne.mpr (by omega)
                have l1 : decide (0 < lev) = false := decide_eq_false (by omega)
                have HG := Aside0.mk (nodeE_shape (lev := lev) HTX.out (by rw [← Bool.not_eq_true]; intro h; simp only [shapeB] at h; split at h <;> simp only [Bool.and_eq_true, decide_eq_true_eq] at h <;> first | omega | exact absurd h (by simp [hzk, hze])))
                clear hlv hzk hze
                go_wp2
                go_ret
                rw [HG.out]
                exact ⟨rfl, HB2.out⟩
              · subst hlv
                have hlv := HTX.out
                have HG := Aside0.mk (nodeE_shape (lev := 0) HTX.out (by rw [← Bool.not_eq_true]; intro h; simp only [shapeB] at h; split at h <;> simp only [Bool.and_eq_true, decide_eq_true_eq] at h <;> first | omega | exact absurd h (by simp [hzk, hze])))
                clear hlv hzk hze
                go_wp2
                go_ret
                rw [HG.out]
                exact ⟨rfl, HB2.out⟩
              · have l0 : (lev == 0) = false := beq_eq_false_iff_ne.mpr (by omega)
                have l1 : decide (0 < lev) = true := decide_eq_true (by omega)
                have l2 : decide (lev ≤ 20) = true := decide_eq_true (by omega)
                have HG := Aside0.mk (nodeE_shape (lev := lev) HTX.out (by rw [← Bool.not_eq_true]; intro h; simp only [shapeB] at h; split at h <;> simp only [Bool.and_eq_true, decide_eq_true_eq] at h <;> first | omega | exact absurd h (by simp [hzk, hze])))
                clear hlv hzk hze
                go_wp2
                go_ret
                rw [HG.out]
                exact ⟨rfl, HB2.out⟩
              · have l0 : (lev == 0) = false := beq_eq_false_iff_ne.mpr (by omega)
                have l1 : decide (0 < lev) = true := decide_eq_true (by omega)
                have l2 : decide (lev ≤ 20) = false := decide_eq_false (by omega)
                have HG := Aside0.mk (nodeE_shape (lev := lev) HTX.out (by rw [← Bool.not_eq_true]; intro h; simp only [shapeB] at h; split at h <;> simp only [Bool.and_eq_true, decide_eq_true_eq] at h <;> first | omega | exact absurd h (by simp [hzk, hze])))
                clear hlv hzk hze
                go_wp2
                go_ret
                rw [HG.out]
                exact ⟨rfl, HB2.out⟩
end Go.Proofs.Ytdbgfmiokmempaa.Sep
namespace Go.Proofs.Ytdbgfmiokmempaa.Sep
set_option linter.unusedSimpArgs false
set_option linter.unusedVariables false
open Go.RowKit Go.Proofs.Ytdbgfmiokmempaa.PCore Go.Proofs.Ytdbgfmiokmempaa.Plain Go.Proofs.YtdbgfmiokmempaaW.PrintWords Go.Proofs.YtdbgfmiokmempaaW.PrintLast Go.Proofs.YtdbgfmiokmempaaW.PrintMore
open Go.Proofs.Ytdbgfmiokmempaa.PDat (S27 k27 z27 rd_T27 at_T27 S60 k60 z60 rd_T60 at_T60)
open Ends (endsB)
set_option maxHeartbeats 16000000 in
set_option maxRecDepth 100000 in
theorem rput9_calls (lev : Int) (A0 : Option Addr) (c0 : Nat) (es : List Entry) (A1 : Option Addr) (c1 : Nat) (ks : List Kid) (W : World) (hC0 : Kd.C k27 W A0 es.length es) (hc0 : es.length ≤ c0) (hC1 : Kd.C k60 W A1 ks.length ks) (hc1 : ks.length ≤ c1) (hn0 : es.length ≤ 1000000) (hn1 : ks.length ≤ 1000000) (hI : KidsIn ks) :
    Calls Try.prog 22 #[.agg #[.int .i64 lev, .slice A0 es.length c0, .slice A1 ks.length c1]] W fun e W1 => ∃ v, e = .returned (.tuple #[v, .int .i64 (putNE lev es ks)]) ∧ Kd.R (Kd.int .u8) 5 W1 W.heap.size (fun _ => True) v (putNL lev es ks) ∧ Below W.heap.size W W1 := by
  have HR := Aside0.mk (fun w (hb : Below W.heap.size W w) => rnode_calls lev A0 c0 es A1 c1 ks w (Kd.C_below hC0 hb) hc0 (Kd.C_below hC1 hb) hc1 hn0 hn1)
  have HC0 := Aside0.mk hC0
  have HC1 := Aside0.mk hC1
  have HN0 := Aside0.mk hn0
  have HN1 := Aside0.mk hn1
  have HII := Aside0.mk hI
  have huF := Try.underlying34
  have huE := Try.underlying27
  have huK := Try.underlying60
  by_cases he : nodeE lev es ks = 0
  · have HE := Aside0.mk he
    obtain ⟨q1, q2, q3, q4, q5, q6⟩ := put_facts he hI hn0 hn1
    have HQ1 := Aside0.mk q1
    have HQ2 := Aside0.mk q2
    have HQ3 := Aside0.mk q3
    have HQ4 := Aside0.mk q4
    have HQ5 := Aside0.mk q5
    have HQ6 := Aside0.mk q6
    have HL1 := Aside0.mk (enc_len_u64 q1.1 q1.2)
    have hwl : IntKind.u64.wrap lev = lev := by rw [IntKind.wrap_u64]; omega
    obtain ⟨N, hN⟩ : ∃ N : Nat, N = es.length + ks.length := ⟨_, rfl⟩
    have hw64 : wrap64 ((es.length : Int) + (ks.length : Int)) = (N : Int) := by unfold wrap64; omega
    have hwi64 : IntKind.i64.wrap ((es.length : Int) + (ks.length : Int)) = (N : Int) := by first | exact hw64 | (rw [i64_w]; exact hw64)
    have hwu : IntKind.u64.wrap (N : Int) = (N : Int) := by rw [IntKind.wrap_u64]; omega
    have HNN := Aside0.mk hN
    have HNB := Aside0.mk (show 0 ≤ (N : Int) ∧ (N : Int) < 18446744073709551616 by omega)
    clear hC0 hc0 hC1 hc1 hn0 hn1 hI he q1 q2 q3 q4 q5 q6 hN
    go_enter Try.func22, Try.ntmps22
    go_wp2_with (first | (go_at_call 26; refine (HR.out _ (below_alloc (Below.refl _ _) _)).mono ?_; rw [HE.out]; rintro e w2 ⟨rfl, hb⟩; have HB2 := Aside0.mk (below_step (below_alloc (Below.refl W.heap.size W) (.cells #[.int .i64 lev, .slice A0 es.length c0, .slice A1 ks.length c1] 34)) hb); have hk2 := (Fr.of_below (B := 0) (T := []) hb).blk (blk_new W (.cells #[.int .i64 lev, .slice A0 es.length c0, .slice A1 ks.length c1] 34)) (by simp); have HK2 := Aside0.mk hk2; obtain ⟨a0, a1, a2⟩ := nod3_cells hk2; clear hb hk2) | (go_at_call 38; have hq := HR3.out; clear hq; refine (rn_num2 w2 _ _ _ (N : Int) HB3.out HR3.out HNB.out (by have := HL1.out; simp; omega)).mono ?_; rintro e w4 ⟨v4, rfl, hr, hb, hf⟩; have HR4 := Aside0.mk hr; have HB4 := Aside0.mk hb; have hk4 := hf.blk HK3.out (by decide); have HK4 := Aside0.mk hk4; obtain ⟨c0', c1', c2'⟩ := nod3_cells hk4; clear hr hb hf hk4) | (go_at_call 38; refine (rn_num2 w2 w2 (.slice none 0 0) [] lev (Below.refl _ _) (Kd.R_nil _ _ _ _ _) HQ1.out (by decide)).mono ?_; rintro e w3 ⟨v3, rfl, hr, hb, hf⟩; rw [List.nil_append] at hr; have HR3 := Aside0.mk hr; have HB3 := Aside0.mk hb; have hk3 := hf.blk HK2.out (by decide); have HK3 := Aside0.mk hk3; obtain ⟨b0, b1, b2⟩ := nod3_cells hk3; clear hr hb hf hk3))
    generalize hbs : enc lev ++ enc ((es.length + ks.length : Nat) : Int) = hd at HQ2
    have HHD := Aside0.mk hbs
    have HR4' := Aside0.mk (show Kd.R (Kd.int .u8) 5 w4 w2.heap.size (fun _ => True) v4 hd by have h := HR4.out; rw [HNN.out, hbs] at h; exact h)
    clear hbs HR4 HR3 a0 a1 a2 b0 b1 b2
    go_loopg [5, 32] es.length (fun kq v5 v32 w' => ∃ i : Nat, v32 = .int .i64 i ∧ Aside0 (i ≤ es.length ∧ kq = es.length - i) ∧ Aside0 (Kd.R (Kd.int .u8) 5 w' w2.heap.size (fun _ => True) v5 (hd ++ encEs (es.take i))) ∧ Aside0 (w'.heap[W.heap.size]? = some (.cells #[.int .i64 lev, .slice A0 es.length c0, .slice A1 ks.length c1] 34 (0, 0))) ∧ Aside0 (Below w2.heap.size w2 w'))
    case atStart => exact ⟨0, rfl, ⟨by omega, by omega⟩, ⟨by simpa [encEs] using HR4'.out⟩, ⟨HK4.out⟩, ⟨HB4.out⟩⟩
    case round =>
      clear c0' c1' c2' HK4 HB4 HR4'
      obtain ⟨i, rfl, HI, HW, HK, HB⟩ := hrel
      by_cases hlt : i < es.length
      · obtain ⟨ad, rfl, h0, h1⟩ := at_T27 (Kd.C_below HC0.out (below_step HB2.out HB.out)) (i : Int) (by omega) (by omega)
        simp only [Int.toNat_natCast] at h0 h1
        have HTK := Aside0.mk (encEs_take i hlt)
        have hsz := HQ5.out _ (List.getElem_mem hlt)
        rw [← en_at i hlt] at hsz
        generalize rd_T27 es (i : Int) = x at h0 h1 HTK hsz
        obtain ⟨f0, f1⟩ := x
        simp only at h0 h1 hsz
        have HSZ := Aside0.mk hsz
        have HT0 := Aside0.mk (encT_len f0 (by omega))
        clear hsz
        have hlt' : (i : Int) < (es.length : Int) := by omega
        have HWI := Aside0.mk (show wrap64 ((i : Int) + 1) = ((i + 1 : Nat) : Int) by have := HN0.out; unfold wrap64; omega)
        have HLB := Aside0.mk (show (hd ++ encEs (es.take i)).length ≤ 400000000 by have h1 := HQ2.out; have h2 := HQ3.out i; rw [List.length_append]; omega)
        generalize hbs : hd ++ encEs (es.take i) = bs at HW HLB
        have HBS := Aside0.mk hbs
        clear hbs
        go_wp2
        have hy := blk_new wr (.cells #[.string f0, .string f1] 27)
        have HRy := Aside0.mk (Kd.R_alloc HW.out (.cells #[.string f0, .string f1] 27))
        have HSy := Aside0.mk (blk_alloc HK.out (.cells #[.string f0, .string f1] 27))
        have HBy := Aside0.mk (below_alloc HB.out (.cells #[.string f0, .string f1] 27))
        generalize wr.alloc (.cells #[.string f0, .string f1] 27) = wy at hy HRy HSy HBy ⊢
        generalize wr.heap.size = gy at hy ⊢
        have yd0 : World.cell? wy.drew ⟨gy, 0, none⟩ = some (.string f0) := (blk_cell (blk_drew hy) 0).trans rfl
        have yd1 : World.cell? wy.drew ⟨gy, 1, none⟩ = some (.string f1) := (blk_cell (blk_drew hy) 1).trans rfl
        have HRd := Aside0.mk (Kd.R_drew HRy.out)
        have HSd := Aside0.mk (blk_drew HSy.out)
        have HBd := Aside0.mk (below_drew HBy.out)
        have HYd := Aside0.mk (blk_drew hy)
        clear hy h0 h1
        go_region_held3 (fun w' => World.cell? w' ⟨gy, 0, none⟩ = some (.string f0) ∧ World.cell? w' ⟨gy, 1, none⟩ = some (.string f1)) (first | exact ⟨yd0, yd1⟩ | exact ⟨y60, y61⟩ | exact ⟨y70, y71⟩ | go_keep) (first | (go_at_call 39; have hq := HR6.out; clear hq; refine (rn_text2 w2 _ _ _ f1 HB6.out HR6.out (by have h1 := HLB.out; have h2 := HT0.out; have h3 := HSZ.out; simp only [List.length_append]; omega)).mono ?_; rintro e w7 ⟨v7', rfl, hr, hb, hf⟩; have HR7 := Aside0.mk hr; have HB7 := Aside0.mk hb; have HS7 := Aside0.mk (hf.blk HS6.out (by decide)); have hY7 := hf.blk HY6.out (by decide); obtain ⟨y70, y71⟩ := two_cells hY7; clear hr hb hf hY7) | (go_at_call 39; refine (rn_text2 w2 _ _ _ f0 HBd.out HRd.out (by have h1 := HLB.out; have h3 := HSZ.out; omega)).mono ?_; rintro e w6 ⟨v6', rfl, hr, hb, hf⟩; have HR6 := Aside0.mk hr; have HB6 := Aside0.mk hb; have HS6 := Aside0.mk (hf.blk HSd.out (by decide)); have HY6 := Aside0.mk (hf.blk HYd.out (by decide)); obtain ⟨y60, y61⟩ := two_cells HY6.out; clear hr hb hf))
        all_goals (
          go_wp2
          go_roundg (es.length - (i + 1))
          case measure => have := HI.out; omega
          case rel => exact ⟨i + 1, by rw [HWI.out], ⟨by omega, rfl⟩, ⟨by rw [HTK.out, ← List.append_assoc, HBS.out]; simpa [encE, List.append_assoc] using HR7.out⟩, ⟨HS7.out⟩, ⟨HB7.out⟩⟩)
      · have hI : i = es.length := by have := HI.out; omega
        subst hI
        obtain ⟨z0, z1, b2⟩ := nod3_cells HK.out
        have HLB := Aside0.mk (show (hd ++ encEs es).length ≤ 400000000 by have h1 := HQ2.out; have h2 := HQ3.out es.length; rw [List.take_length] at h2; rw [List.length_append]; omega)
        have hW := HW.out
        rw [List.take_length] at hW
        have HWa := Aside0.mk hW
        clear hW HW z0 z1
        generalize hbs : hd ++ encEs es = bs at HWa HLB
        have HBS := Aside0.mk hbs
        clear hbs
        go_wp2
        go_loopg [5, 47] ks.length (fun kq v5 v47 w' => ∃ i : Nat, v47 = .int .i64 i ∧ Aside0 (i ≤ ks.length ∧ kq = ks.length - i) ∧ Aside0 (Kd.R (Kd.int .u8) 5 w' w2.heap.size (fun _ => True) v5 (bs ++ encKs (ks.take i))) ∧ Aside0 (Below w2.heap.size w2 w'))
        case atStart => exact ⟨0, rfl, ⟨by omega, by omega⟩, ⟨by simpa [encKs] using HWa.out⟩, ⟨HB.out⟩⟩
        case round =>
          clear b2 HWa
          clear HK HB HI
          obtain ⟨i, rfl, HI, HW, HB⟩ := hrel
          by_cases hlt : i < ks.length
          · obtain ⟨ad, rfl, h0, h1⟩ := at_T60 (Kd.C_below HC1.out (below_step HB2.out HB.out)) (i : Int) (by omega) (by omega)
            simp only [Int.toNat_natCast] at h0 h1
            have HTK := Aside0.mk (encKs_take i hlt)
            have hsz := HQ6.out _ (List.getElem_mem hlt)
            have hin := HII.out _ (List.getElem_mem hlt)
            rw [← ki_at i hlt] at hsz hin
            generalize rd_T60 ks (i : Int) = x at h0 h1 HTK hsz hin
            obtain ⟨f0, f1⟩ := x
            simp only at h0 h1 hsz hin
            have HSZ := Aside0.mk hsz
            have HIN := Aside0.mk hin
            have HT0 := Aside0.mk (encT_len f0 (by omega))
            clear hsz hin
            have hlt' : (i : Int) < (ks.length : Int) := by omega
            have HWI := Aside0.mk (show wrap64 ((i : Int) + 1) = ((i + 1 : Nat) : Int) by have := HN1.out; unfold wrap64; omega)
            have HLC := Aside0.mk (show (bs ++ encKs (ks.take i)).length ≤ 600000000 by have h1 := HLB.out; have h2 := HQ4.out i; rw [List.length_append]; omega)
            generalize hcs : bs ++ encKs (ks.take i) = cs at HW HLC
            have HCS := Aside0.mk hcs
            clear hcs
            go_wp2
            have hy := blk_new wr (.cells #[.string f0, .int .u64 f1] 60)
            have HRy := Aside0.mk (Kd.R_alloc HW.out (.cells #[.string f0, .int .u64 f1] 60))
            have HBy := Aside0.mk (below_alloc HB.out (.cells #[.string f0, .int .u64 f1] 60))
            generalize wr.alloc (.cells #[.string f0, .int .u64 f1] 60) = wy at hy HRy HBy ⊢
            generalize wr.heap.size = gy at hy ⊢
            have yd0 : World.cell? wy.drew ⟨gy, 0, none⟩ = some (.string f0) := (blk_cell (blk_drew hy) 0).trans rfl
            have yd1 : World.cell? wy.drew ⟨gy, 1, none⟩ = some (.int .u64 f1) := (blk_cell (blk_drew hy) 1).trans rfl
            have HRd := Aside0.mk (Kd.R_drew HRy.out)
            have HBd := Aside0.mk (below_drew HBy.out)
            have HYd := Aside0.mk (blk_drew hy)
            clear hy h0 h1
            go_region_held3 (fun w' => World.cell? w' ⟨gy, 0, none⟩ = some (.string f0) ∧ World.cell? w' ⟨gy, 1, none⟩ = some (.int .u64 f1)) (first | exact ⟨yd0, yd1⟩ | exact ⟨y60, y61⟩ | exact ⟨y70, y71⟩ | go_keep) (first | (go_at_call 38; refine (rn_num2 w2 _ _ _ f1 HB6.out HR6.out HIN.out (by have h1 := HLC.out; have h2 := HT0.out; have h3 := HSZ.out; simp only [List.length_append]; omega)).mono ?_; rintro e w7 ⟨v7', rfl, hr, hb, hf⟩; have HR7 := Aside0.mk hr; have HB7 := Aside0.mk hb; have hY7 := hf.blk HY6.out (by decide); obtain ⟨y70, y71⟩ := two_cells hY7; clear hr hb hf hY7) | (go_at_call 39; refine (rn_text2 w2 _ _ _ f0 HBd.out HRd.out (by have h1 := HLC.out; have h3 := HSZ.out; omega)).mono ?_; rintro e w6 ⟨v6', rfl, hr, hb, hf⟩; have HR6 := Aside0.mk hr; have HB6 := Aside0.mk hb; have HY6 := Aside0.mk (hf.blk HYd.out (by decide)); obtain ⟨y60, y61⟩ := two_cells HY6.out; clear hr hb hf))
            all_goals (
              go_wp2
              go_roundg (ks.length - (i + 1))
              case measure => have := HI.out; omega
              case rel => exact ⟨i + 1, by rw [HWI.out], ⟨by omega, rfl⟩, ⟨by rw [HTK.out, ← List.append_assoc, HCS.out]; simpa [encK, List.append_assoc] using HR7.out⟩, ⟨HB7.out⟩⟩)
          · have hI : i = ks.length := by have := HI.out; omega
            subst hI
            have hW := HW.out
            rw [List.take_length] at hW
            have HZ := Aside0.mk (show bs ++ encKs ks = encN lev es ks by rw [encN, HHD.out, HBS.out])
            generalize bs ++ encKs ks = cs at hW HZ
            obtain ⟨A7, c7, hv7, hc7, hC7⟩ := Kd.R_reads hW
            subst hv7
            have HWc := Aside0.mk hW
            clear hW HW hc7 hC7
            by_cases hlong : (131072 : Int) < (cs.length : Int)
            · have hl1 : decide ((131072 : Int) < (cs.length : Int)) = true := decide_eq_true hlong
              have HP := Aside0.mk (show putNE lev es ks = 2 by unfold putNE; rw [if_pos HE.out, ← HZ.out, if_neg (by omega)])
              have HPL := Aside0.mk (show putNL lev es ks = [] by unfold putNL; rw [HP.out]; rfl)
              clear hlong
              go_wp2
              go_ret2
              refine ⟨.slice none 0 0, by rw [HP.out]; rfl, ?_, below_step HB2.out HB.out⟩
              rw [HPL.out]
              exact Kd.R_nil _ _ _ _ _
            · have hl1 : decide ((131072 : Int) < (cs.length : Int)) = false := decide_eq_false hlong
              have HP := Aside0.mk (show putNE lev es ks = 0 by unfold putNE; rw [if_pos HE.out, ← HZ.out, if_pos (by omega)])
              have HPL := Aside0.mk (show putNL lev es ks = cs by unfold putNL; rw [HP.out, HZ.out]; rfl)
              clear hlong
              go_wp2
              go_ret2
              refine ⟨_, by rw [HP.out]; rfl, ?_, below_step HB2.out HB.out⟩
              rw [HPL.out]
              exact Kd.R_lower HWc.out HB2.out.size
  · have he' : (nodeE lev es ks != 0) = true := bne_iff_ne.mpr he
    have HP := Aside0.mk (show putNE lev es ks = nodeE lev es ks by unfold putNE; rw [if_neg he])
    have HPL := Aside0.mk (show putNL lev es ks = [] by unfold putNL; rw [HP.out, if_neg he])
    clear hC0 hc0 hC1 hc1 hn0 hn1 hI he
    go_enter Try.func22, Try.ntmps22
    go_wp2_with (go_at_call 26; refine (HR.out _ (below_alloc (Below.refl _ _) _)).mono ?_; rintro e w2 ⟨rfl, hb⟩; have HB2 := Aside0.mk (below_step (below_alloc (Below.refl _ _) (.cells #[.int .i64 lev, .slice A0 es.length c0, .slice A1 ks.length c1] 34)) hb); clear hb)
    go_ret2
    refine ⟨.slice none 0 0, by rw [HP.out]; rfl, ?_, HB2.out⟩
    rw [HPL.out]
    exact Kd.R_nil _ _ _ _ _
end Go.Proofs.Ytdbgfmiokmempaa.Sep
namespace Go.Proofs.Ytdbgfmiokmempaa.Sep
set_option linter.unusedSimpArgs false
set_option linter.unusedVariables false
open Go.RowKit Go.Proofs.Ytdbgfmiokmempaa.PCore Go.Proofs.Ytdbgfmiokmempaa.Plain Go.Proofs.YtdbgfmiokmempaaW.PrintWords Go.Proofs.YtdbgfmiokmempaaW.PrintLast Go.Proofs.YtdbgfmiokmempaaW.PrintMore
/-- Reading until it fails. -/
def rdStop {α : Type} (f : RS → α × RS) : Nat → RS → List α × RS
  | 0, s => ([], s)
  | n + 1, s => if s.2 = true then ([], s) else ((f s).1 :: (rdStop f n (f s).2).1, (rdStop f n (f s).2).2)
theorem stop_bad {α : Type} (f : RS → α × RS) : ∀ (n : Nat) {s : RS}, s.2 = true → rdStop f n s = ([], s)
  | 0, s, _ => rfl
  | n + 1, s, h => by rw [rdStop, if_pos h]
theorem stop_step {α : Type} (f : RS → α × RS) (n : Nat) {s : RS} (h : s.2 = false) : rdStop f (n + 1) s = ((f s).1 :: (rdStop f n (f s).2).1, (rdStop f n (f s).2).2) := by rw [rdStop, if_neg (by rw [h]; decide)]
theorem stop_many {α : Type} (f : RS → α × RS) (hf : ∀ s, s.2 = true → (f s).2.2 = true) : ∀ (n : Nat) (s : RS), ((rdStop f n s).2.2 = false → rdStop f n s = rdMany f n s) ∧ ((rdMany f n s).2.2 = false → rdStop f n s = rdMany f n s)
  | 0, s => ⟨fun _ => rfl, fun _ => rfl⟩
  | n + 1, s => by
    obtain ⟨i1, i2⟩ := stop_many f hf n (f s).2
    cases hs : s.2 with
    | true =>
      refine ⟨fun h => ?_, fun h => ?_⟩
      · rw [stop_bad f _ hs, hs] at h; cases h
      · rw [many_bad f hf _ hs] at h; cases h
    | false =>
      rw [stop_step f n hs]
      refine ⟨fun h => ?_, fun h => ?_⟩
      · rw [i1 h]; rfl
      · rw [i2 h]; rfl
theorem stop_snoc {α : Type} (f : RS → α × RS) (j : Nat) (s s0 : RS) (xs : List α) (N : Nat) (hs : s.2 = false) (h : rdStop f N s0 = (xs ++ (rdStop f (j + 1) s).1, (rdStop f (j + 1) s).2)) : rdStop f N s0 = ((xs ++ [(f s).1]) ++ (rdStop f j (f s).2).1, (rdStop f j (f s).2).2) := by
  rw [h, stop_step f j hs]
  simp
/-- The node that bytes begin with, as the reference reads it. -/
def rdR (b : List Int) : Nod × RS :=
  if (rdNum 20 (b, false)).1 = 0 then (⟨0, (rdStop rdE (rdNum 131072 (rdNum 20 (b, false)).2).1.toNat (rdNum 131072 (rdNum 20 (b, false)).2).2).1, []⟩, (rdStop rdE (rdNum 131072 (rdNum 20 (b, false)).2).1.toNat (rdNum 131072 (rdNum 20 (b, false)).2).2).2)
  else (⟨(rdNum 20 (b, false)).1, [], (rdStop rdK (rdNum 131072 (rdNum 20 (b, false)).2).1.toNat (rdNum 131072 (rdNum 20 (b, false)).2).2).1⟩, (rdStop rdK (rdNum 131072 (rdNum 20 (b, false)).2).1.toNat (rdNum 131072 (rdNum 20 (b, false)).2).2).2)
def ofR (b : List Int) : Nod × Int := if rdDone (rdR b).2 = true ∧ b.length ≤ 131072 ∧ nodeE (rdR b).1.lev (rdR b).1.es (rdR b).1.ks = 0 then ((rdR b).1, 0) else (zeroN, 90)
theorem rdR_many (b : List Int) : ((rdR b).2.2 = false → rdR b = rdN 131072 b) ∧ ((rdN 131072 b).2.2 = false → rdR b = rdN 131072 b) := by
  unfold rdR rdN
  split
  · obtain ⟨h1, h2⟩ := stop_many rdE bad_E (rdNum 131072 (rdNum 20 (b, false)).2).1.toNat (rdNum 131072 (rdNum 20 (b, false)).2).2
    exact ⟨fun h => by rw [h1 h], fun h => by rw [h2 h]⟩
  · obtain ⟨h1, h2⟩ := stop_many rdK bad_K (rdNum 131072 (rdNum 20 (b, false)).2).1.toNat (rdNum 131072 (rdNum 20 (b, false)).2).2
    exact ⟨fun h => by rw [h1 h], fun h => by rw [h2 h]⟩
theorem rdNum_most {m M : Int} {s : RS} (hm : m ≤ M) (h : (rdNum m s).2.2 = false) : rdNum M s = rdNum m s := by
  obtain ⟨b, f⟩ := s
  unfold rdNum at h ⊢
  cases f with
  | true => simp at h
  | false =>
    simp only [Bool.false_eq_true, if_false] at h ⊢
    cases hd : dec 0 b with
    | none => rfl
    | some p =>
      obtain ⟨n, k⟩ := p
      rw [hd] at h
      simp only at h ⊢
      by_cases c : m < n
      · rw [if_pos c] at h; simp [failed] at h
      · rw [if_neg c, if_neg (by omega)]
theorem rdNum_less {m M : Int} {s : RS} (h : (rdNum M s).2.2 = false) (hn : (rdNum M s).1 ≤ m) : rdNum m s = rdNum M s := by
  obtain ⟨b, f⟩ := s
  unfold rdNum at h hn ⊢
  cases f with
  | true => simp at h
  | false =>
    simp only [Bool.false_eq_true, if_false] at h hn ⊢
    cases hd : dec 0 b with
    | none => rfl
    | some p =>
      obtain ⟨n, k⟩ := p
      rw [hd] at h hn
      simp only at h hn ⊢
      by_cases c : M < n
      · rw [if_pos c] at h; simp [failed] at h
      · rw [if_neg c] at hn ⊢
        simp only at hn
        rw [if_neg (by omega)]
theorem rdN_count {most : Int} {b : List Int} (h : (rdN most b).2.2 = false) : (rdNum most (rdNum 20 (b, false)).2).2.2 = false := by
  cases hq : (rdNum most (rdNum 20 (b, false)).2).2.2 with
  | false => rfl
  | true =>
    unfold rdN at h
    split at h
    · have := many_bad rdE bad_E (rdNum most (rdNum 20 (b, false)).2).1.toNat hq
      simp only at h
      rw [this] at h
      cases h
    · have := many_bad rdK bad_K (rdNum most (rdNum 20 (b, false)).2).1.toNat hq
      simp only at h
      rw [this] at h
      cases h
theorem rdN_same {m M : Int} {b : List Int} (h : rdNum m (rdNum 20 (b, false)).2 = rdNum M (rdNum 20 (b, false)).2) : rdN m b = rdN M b := by unfold rdN; rw [h]
theorem ofR_ofN {b : List Int} (hF : Fine (b, false)) : ofR b = ofN b := by
  by_cases hl : b.length ≤ 131072
  · by_cases hd : rdDone (rdN b.length b).2 = true
    · have h1 : (rdN b.length b).2.2 = false := by rw [(rdDone_iff _).1 hd]
      have h2 := rdNum_most (M := 131072) (by omega) (rdN_count h1)
      have h3 := rdN_same h2
      have h4 := (rdR_many b).2 (by rw [h3]; exact h1)
      unfold ofR ofN
      rw [h4, h3]
    · have e : ofN b = (zeroN, 90) := by unfold ofN; rw [if_neg (fun h => hd h.1)]
      rw [e]
      unfold ofR
      rw [if_neg]
      intro h
      have h1 : (rdR b).2.2 = false := by rw [(rdDone_iff _).1 h.1]
      have h2 := (rdR_many b).1 h1
      rw [h2] at h h1
      have hc := rdN_count h1
      have hb := rdN_of hF (most := 131072) (by decide) h1
      rw [(rdDone_iff _).1 h.1, List.append_nil] at hb
      have f1 := fine_num hF 20
      have hq : (rdNum 131072 (rdNum 20 (b, false)).2).1 ≤ (b.length : Int) := by
        have hn := num_in f1 131072 (by decide)
        have e1 := encEs_ge (rdN 131072 b).1.es
        have e2 := encKs_ge (rdN 131072 b).1.ks
        have e3 : (encEs (rdN 131072 b).1.es).length + (encKs (rdN 131072 b).1.ks).length ≤ b.length := by
          have := congrArg List.length hb
          simp only [encN, List.length_append] at this
          omega
        have e4 : (((rdN 131072 b).1.es.length + (rdN 131072 b).1.ks.length : Nat) : Int) = (rdNum 131072 (rdNum 20 (b, false)).2).1 := by
          unfold rdN
          split
          · simp only [many_len, List.length_nil]; omega
          · simp only [many_len, List.length_nil]; omega
        omega
      have h5 := rdN_same (rdNum_less hc hq)
      rw [← h5] at h
      exact hd h.1
  · unfold ofR ofN
    rw [if_neg (fun h => hl h.2.1), if_neg (fun h => hl h.2.1)]
theorem rf_boxC {W w3 : World} {A0 : Option Addr} {c0 : Nat} {b : List Int} (hC0 : Kd.C (Kd.int .u8) W A0 b.length b) (hc0 : b.length ≤ c0) (hF : Fine (b, false)) (hB : Below W.heap.size W w3) :
    RdAt 80 W.heap.size w3.heap.size (w3.alloc (.cells #[.slice A0 b.length c0, .bool false] 80)) (b, false) := by
  refine ⟨A0, c0, blk_new _ _, hB.size, hc0, Kd.C_below (Kd.C_below hC0 hB) (below_alloc (Below.refl _ _) _), fun hp ad e => .inl ?_, hF⟩
  obtain ⟨ad', e', hc⟩ := (show ReadsInt W .u8 A0 b.length b from Kd.reads_of_C (d := 0) hC0).2.2 hp
  rw [e] at e'
  injection e' with e'
  subst e'
  exact World.block_lt_of_cell? _ _ (hc 0 hp)
theorem RdAt.badC {t B g : Nat} {W : World} {s : RS} (h : RdAt t B g W s) : W.cell? ⟨g, 1, none⟩ = some (.bool s.2) := by
  obtain ⟨A, c, hb, _⟩ := h
  exact (blk_cell hb 1).trans rfl
end Go.Proofs.Ytdbgfmiokmempaa.Sep
namespace Go.Proofs.Ytdbgfmiokmempaa.Sep
set_option linter.unusedSimpArgs false
set_option linter.unusedVariables false
open Go.RowKit Go.Proofs.Ytdbgfmiokmempaa.PCore Go.Proofs.Ytdbgfmiokmempaa.Plain Go.Proofs.YtdbgfmiokmempaaW.PrintWords Go.Proofs.YtdbgfmiokmempaaW.PrintLast Go.Proofs.YtdbgfmiokmempaaW.PrintMore
open Go.Proofs.Ytdbgfmiokmempaa.PDat (S27 k27 z27 k27_mkM S60 k60 z60 k60_mkM)
open Ends (endsB)
theorem k_succ (j : Nat) (h : j ≤ 1000000) : IntKind.u64.wrap ((j : Int) + 1) = ((j + 1 : Nat) : Int) := by rw [IntKind.wrap_u64]; omega
set_option maxHeartbeats 16000000 in
set_option maxRecDepth 100000 in
theorem rof9_calls (A : Option Addr) (c : Nat) (b : List Int) (W : World) (hC : Kd.C (Kd.int .u8) W A b.length b) (hc : b.length ≤ c) (hF : Fine (b, false)) :
    Calls Try.prog 24 #[.slice A b.length c] W fun e W1 => OfNAns W (ofN b) e W1 := by
  rw [← ofR_ofN hF]
  have HP := Aside0.mk (rf_boxC hC hc hF (below_alloc (Below.refl W.heap.size W) (.cells zeroNC 34)))
  have HFF := Aside0.mk hF
  have HBL := Aside0.mk (show b.length ≤ 1000000 from hF.2.1)
  have huF := Try.underlying34
  have huE := Try.underlying27
  have huK := Try.underlying60
  have huR := Try.underlying80
  obtain ⟨L, s1, hL⟩ : ∃ L s1, rdNum 20 (b, false) = (L, s1) := ⟨_, _, rfl⟩
  have hLi := num_in hF 20 (by decide)
  have hs1 := fine_num hF 20
  rw [hL] at hLi hs1
  simp only at hLi hs1
  obtain ⟨q, s2, hq⟩ : ∃ q s2, rdNum 131072 s1 = (q, s2) := ⟨_, _, rfl⟩
  have hqi := num_in hs1 131072 (by decide)
  have hs2 := fine_num hs1 131072
  rw [hq] at hqi hs2
  simp only at hqi hs2
  obtain ⟨n, hn⟩ : ∃ n : Nat, q = (n : Int) := ⟨q.toNat, by omega⟩
  subst hn
  have HNB := Aside0.mk (show n ≤ 131072 by omega)
  have HRN := Aside0.mk (show rdR b = if L = 0 then (⟨0, (rdStop rdE n s2).1, []⟩, (rdStop rdE n s2).2) else (⟨L, [], (rdStop rdK n s2).1⟩, (rdStop rdK n s2).2) by
    unfold rdR
    rw [hL]
    simp only
    rw [hq]
    simp only [Int.toNat_natCast])
  have hwl : wrap64 L = L := by unfold wrap64; omega
  have hwl2 : IntKind.i64.wrap L = L := by first | exact hwl | (rw [i64_w]; exact hwl)
  have HL := Aside0.mk hL
  have HQ := Aside0.mk hq
  clear hC hc hF hL hq hLi hqi hs1 hs2
  go_enter Try.func24, Try.ntmps24
  go_wp2_with fail
  obtain ⟨g, hg⟩ : ∃ g, g = W.heap.size + 1 := ⟨_, rfl⟩
  have hk0 := blk_new W (.cells zeroNC 34)
  have HK1 := Aside0.mk (blk_alloc hk0 (.cells #[.slice A b.length c, .bool false] 80))
  have HB1 := Aside0.mk (below_alloc (below_alloc (Below.refl W.heap.size W) (.cells zeroNC 34)) (.cells #[.slice A b.length c, .bool false] 80))
  have hp := HP.out
  rw [← size_one W (.cells zeroNC 34), ← hg] at hp
  have HR1 := Aside0.mk hp
  rw [← hg]
  generalize (W.alloc (.cells zeroNC 34)).alloc (.cells #[.slice A b.length c, .bool false] 80) = w1 at HK1 HB1 HR1 ⊢
  clear hk0 hp hg HP
  refine (rf_num W.heap.size g (b, false) 20 _ HR1.out).mono ?_
  rw [HL.out]
  rintro e w2 ⟨rfl, hr, hf⟩
  have HS2 := Aside0.mk (ndSt_new (T := 80) (x := L) hr hf HK1.out HB1.out (by decide))
  clear hr hf HR1 HK1 HB1
  go_wp2_with (go_at_call 46; refine (rf_num W.heap.size g _ 131072 _ HS2.out.rd).mono ?_; rw [HQ.out]; rintro e w3 ⟨rfl, hr, hf⟩; have HS3 := Aside0.mk (HS2.out.fr hr hf (by decide)); clear hr hf)
  clear HS2
  by_cases hl0 : L = 0
  · subst hl0
    have HR0 := Aside0.mk (show rdR b = (⟨0, (rdStop rdE n s2).1, []⟩, (rdStop rdE n s2).2) by rw [HRN.out, if_pos rfl])
    clear HRN
    go_loopg [7] n (fun kq v7 w' => ∃ (i j : Nat) (s : RS) (v : Value) (xs : List Entry), v7 = .int .u64 (i : Int) ∧ Aside0 (kq = j ∧ i + j = n ∧ xs.length = i) ∧ Aside0 (rdStop rdE n s2 = (xs ++ (rdStop rdE j s).1, (rdStop rdE j s).2)) ∧ Aside0 (NdSt 80 W g w2.heap.size w' s 0 v xs (.slice none 0 0) []))
    case atStart => exact ⟨0, n, s2, .slice none 0 0, [], rfl, ⟨rfl, by omega, rfl⟩, ⟨by simp⟩, ⟨HS3.out⟩⟩
    case round =>
      obtain ⟨i, j, s, v, xs, rfl, HJ, HE, HS⟩ := hrel
      have hbad := HS.out.rd.badC
      by_cases hgo : 0 < j ∧ s.2 = false
      · obtain ⟨j, rfl⟩ : ∃ k, j = k + 1 := ⟨j - 1, by omega⟩
        have HSB := Aside0.mk hgo.2
        rw [hgo.2] at hbad
        have hlt1 : decide ((i : Int) < (n : Int)) = true := decide_eq_true (by have := HJ.out; omega)
        have hlt2 : decide (i < n) = true := decide_eq_true (by have := HJ.out; omega)
        have HWI := Aside0.mk (k_succ i (by have := HJ.out; have := HNB.out; omega))
        have hc0 := HS.out.c.1
        clear hgo
        go_wp2_with (go_at_call 47; refine (rf_text W.heap.size g s 40 _ HS.out.rd (by decide)).mono ?_; rintro e w4 ⟨rfl, hr, hf⟩; have HS4 := Aside0.mk (HS.out.fr hr hf (by decide)); have hd0 := HS4.out.c.1; clear hr hf)
        have HSd := Aside0.mk (HS4.out.below (below_drew (Below.refl w4.heap.size w4)))
        have hc1 := HS4.out.c.2.1
        have hcd : w4.drew.cell? ⟨w2.heap.size, 1, none⟩ = some v := HSd.out.c.2.1
        go_region_law (first | (refine Kd.R_append_step k27 (w0 := W) W.heap.size (by rfl) (.tmp 36) (.tmp 41) 22 27 (.agg #[(.string ⟨#[]⟩), (.string ⟨#[]⟩)]) 32 rfl Try.underlying22 (by kernel_rfl) rfl (by decide) (by omega) v xs (rdE s).1 [.string (rdText 40 s).1, .string (rdText 200 (rdText 40 s).2).1] (fun _ => True) (fun _ => False) rfl rfl (k27_mkM _ _ _ _) (fun _ hk => hk.elim) (fun _ _ => trivial) HS5.out.hE HS5.out.bel HS5.out.bel.size (by have := HJ.out; have := HNB.out; omega) ?_; intro v1 w6 ho hb hgr hat; obtain ⟨Ax, nx, cx, hvx⟩ := R_slice' ho; subst hvx; have hF6 := (show Fr W.heap.size [27] w5 w6 by obtain ⟨inner, h⟩ := Kd.R_own HS5.out.hE; exact Fr.of_grown h (Nat.le_refl _) hgr (by simp)); have HS6 := Aside0.mk (HS5.out.pushE ⟨by decide, by decide⟩ ho hF6 hb); have hf6 := hF6.blk HS5.out.bC (by decide); have hc61 : w6.cell? ⟨w2.heap.size, 1, none⟩ = some v := (blk_cell hf6 1).trans rfl; have hz61 : w6.frozen? ⟨w2.heap.size, 1, none⟩ = false := blk_frozen hf6 1; clear ho hb hgr hat hf6 hF6) | (go_simp; (go_at_call 47; refine (rf_text W.heap.size g _ 200 _ HSd.out.rd (by decide)).mono ?_; rintro e w5 ⟨rfl, hr, hf⟩; have HS5 := Aside0.mk (HSd.out.fr hr hf (by decide)); have hc51 := HS5.out.c.2.1; have hc5b : (w5.alloc (.cells #[.string (rdText 40 s).1, .string (rdText 200 (rdText 40 s).2).1] 27)).cell? ⟨w2.heap.size, 1, none⟩ = some v := (HS5.out.below (below_alloc (Below.refl _ _) _)).c.2.1; clear hr hf)))
        all_goals (
          go_wp2
          go_roundg j
          case measure => have := HJ.out; omega
          case rel => exact ⟨i + 1, j, (rdE s).2, .slice Ax nx cx, xs ++ [(rdE s).1], by rw [HWI.out], ⟨rfl, by have := HJ.out; omega, by have := HJ.out; simp; omega⟩, ⟨stop_snoc _ _ _ _ _ _ HSB.out HE.out⟩, ⟨HS6.out⟩⟩)
      · have HXE := Aside0.mk (show rdStop rdE n s2 = (xs, s) by
          rw [HE.out]
          cases hs : s.2 with
          | true => rw [stop_bad rdE _ hs]; simp
          | false => have : j = 0 := (by omega : ∀ j : Nat, ¬ 0 < j → j = 0) j (fun h => hgo ⟨h, hs⟩); subst this; simp [rdStop])
        have HST := Aside0.mk (show i = n ∨ (i < n ∧ s.2 = true) by
          have h1 := HJ.out
          cases hs : s.2 with
          | true => by_cases hi : i = n
                    · exact .inl hi
                    · exact .inr ⟨by omega, rfl⟩
          | false => exact .inl (by have : ¬ 0 < j := fun h => hgo ⟨h, hs⟩; omega))
        clear hgo
        have HRD := Aside0.mk (show rdR b = ((⟨0, xs, []⟩ : Nod), s) by rw [HR0.out, HXE.out])
        have HXL := Aside0.mk (show xs.length ≤ 1000000 by have := HJ.out; have := HNB.out; omega)
        obtain ⟨A1, n1, hv, _, _⟩ := Kd.R_reads HS.out.hE
        subst hv
        obtain ⟨ca, cb, cc⟩ := HS.out.c
        obtain ⟨ra, rb, rc⟩ := HS.out.r
        have y0 := HS.out.y 0
        have y1 := HS.out.y 1
        have y2 := HS.out.y 2
        have HRC := Aside0.mk (Kd.R_reads' HS.out.hE)
        rcases (show (decide ((i : Int) < (n : Int)) = false ∧ decide (i < n) = false) ∨ (decide ((i : Int) < (n : Int)) = true ∧ decide (i < n) = true ∧ s.2 = true) by
          rcases HST.out with h | h
          · exact .inl ⟨decide_eq_false (by omega), decide_eq_false (by omega)⟩
          · exact .inr ⟨decide_eq_true (by omega), decide_eq_true h.1, h.2⟩) with hcmp | hcmp
        all_goals (
          have hcm1 := hcmp.1
          have hcm2 := hcmp.2
          clear hcmp)
        rotate_left
        · rw [hcm2.2] at hbad
          have hcm3 := hcm2.1
          have HDN := Aside0.mk (show rdDone s = false by rw [← Bool.not_eq_true, rdDone_iff]; intro h; rw [h] at hcm2; cases hcm2.2)
          have HOF := Aside0.mk (show ofR b = (zeroN, 90) by unfold ofR; rw [HRD.out, if_neg (fun h => by rw [HDN.out] at h; cases h.1)])
          clear hcm2
          go_wp2_with ((go_at_call 48; refine (rf_done W.heap.size g s _ HS.out.rd).mono ?_; rw [HDN.out]; rintro e w10 ⟨rfl, rfl⟩))
          obtain ⟨hk, hf⟩ := tri_set (B := W.heap.size) HS.out.bR (Nat.le_refl _) (.int .i64 0) (.slice none 0 0) (.slice none 0 0)
          refine bodyPost_ret (results_ct rfl _ _ W.heap.size 34 #[.int .i64 0, .slice none 0 0, .slice none 0 0] (0, 0) _ rfl hk huF rfl (by kernel_rfl)) rfl ?_
          rw [HOF.out]
          exact ofNAns_zero (HS.out.bel.trans (hf.below HS.out.bel.size))
        cases hd : rdDone s with
        | false =>
          have HOF := Aside0.mk (show ofR b = (zeroN, 90) by unfold ofR; rw [HRD.out, if_neg (by rw [hd]; simp)])
          have HDN := Aside0.mk hd
          clear hd
          go_wp2_with ((go_at_call 48; refine (rf_done W.heap.size g s _ HS.out.rd).mono ?_; rw [HDN.out]; rintro e w10 ⟨rfl, rfl⟩))
          obtain ⟨hk, hf⟩ := tri_set (B := W.heap.size) HS.out.bR (Nat.le_refl _) (.int .i64 0) (.slice none 0 0) (.slice none 0 0)
          refine bodyPost_ret (results_ct rfl _ _ W.heap.size 34 #[.int .i64 0, .slice none 0 0, .slice none 0 0] (0, 0) _ rfl hk huF rfl (by kernel_rfl)) rfl ?_
          rw [HOF.out]
          exact ofNAns_zero (HS.out.bel.trans (hf.below HS.out.bel.size))
        | true =>
          have HDN := Aside0.mk hd
          by_cases hlong : (131072 : Int) < (b.length : Int)
          · have hlo : decide ((131072 : Int) < (b.length : Int)) = true := decide_eq_true hlong
            have HOF := Aside0.mk (show ofR b = (zeroN, 90) by unfold ofR; rw [HRD.out, if_neg (fun h => by have := h.2.1; omega)])
            clear hd hlong
            go_wp2_with ((go_at_call 48; refine (rf_done W.heap.size g s _ HS.out.rd).mono ?_; rw [HDN.out]; rintro e w10 ⟨rfl, rfl⟩))
            obtain ⟨hk, hf⟩ := tri_set (B := W.heap.size) HS.out.bR (Nat.le_refl _) (.int .i64 0) (.slice none 0 0) (.slice none 0 0)
            refine bodyPost_ret (results_ct rfl _ _ W.heap.size 34 #[.int .i64 0, .slice none 0 0, .slice none 0 0] (0, 0) _ rfl hk huF rfl (by kernel_rfl)) rfl ?_
            rw [HOF.out]
            exact ofNAns_zero (HS.out.bel.trans (hf.below HS.out.bel.size))
          · have hlo : decide ((131072 : Int) < (b.length : Int)) = false := decide_eq_false hlong
            by_cases he : nodeE 0 xs [] = 0
            · have HOF := Aside0.mk (show ofR b = ((⟨0, xs, []⟩ : Nod), 0) by unfold ofR; rw [HRD.out, if_pos ⟨hd, by omega, he⟩])
              have HEE := Aside0.mk he
              clear hd he hlong
              go_wp2_with (first | (go_at_call 48; refine (rf_done W.heap.size g s _ HS.out.rd).mono ?_; rw [HDN.out]; rintro e w10 ⟨rfl, rfl⟩) | (go_at_call 26; refine (rnode_calls 0 A1 n1 xs none 0 [] _ HRC.out.2.2 HRC.out.2.1 (Kd.C_nil _ _) (by simp) HXL.out (by simp)).mono ?_; rw [HEE.out]; rintro e w11 ⟨rfl, hb11⟩; have HS11 := Aside0.mk (HS.out.below hb11); obtain ⟨da, db, dc⟩ := HS11.out.c; obtain ⟨qa, qb, qc⟩ := HS11.out.r; have x0 := HS11.out.y 0; have x1 := HS11.out.y 1; have x2 := HS11.out.y 2; clear hb11))
              obtain ⟨hk, hf⟩ := tri_set (B := W.heap.size) HS11.out.bR (Nat.le_refl _) (.int .i64 0) (.slice A1 xs.length n1) (.slice none 0 0)
              refine bodyPost_ret (results_ct rfl _ _ W.heap.size 34 #[.int .i64 0, .slice A1 xs.length n1, .slice none 0 0] (0, 0) _ rfl hk huF rfl (by kernel_rfl)) rfl ?_
              rw [HOF.out]
              exact ⟨A1, n1, none, 0, rfl, HRC.out.2.1, Nat.le_refl _, (Kd.R_reads' (hf.R HS11.out.hE (en_E (by decide)))).2.2, Kd.C_nil _ _, HS11.out.bel.trans (hf.below HS11.out.bel.size)⟩
            · have HOF := Aside0.mk (show ofR b = (zeroN, 90) by unfold ofR; rw [HRD.out, if_neg (fun h => he h.2.2)])
              have he' : (nodeE 0 xs [] != 0) = true := bne_iff_ne.mpr he
              clear hd he hlong
              go_wp2_with (first | (go_at_call 48; refine (rf_done W.heap.size g s _ HS.out.rd).mono ?_; rw [HDN.out]; rintro e w10 ⟨rfl, rfl⟩) | (go_at_call 26; refine (rnode_calls 0 A1 n1 xs none 0 [] _ HRC.out.2.2 HRC.out.2.1 (Kd.C_nil _ _) (by simp) HXL.out (by simp)).mono ?_; rintro e w11 ⟨rfl, hb11⟩; have HS11 := Aside0.mk (HS.out.below hb11); obtain ⟨da, db, dc⟩ := HS11.out.c; obtain ⟨qa, qb, qc⟩ := HS11.out.r; have x0 := HS11.out.y 0; have x1 := HS11.out.y 1; have x2 := HS11.out.y 2; clear hb11))
              obtain ⟨hk, hf⟩ := tri_set (B := W.heap.size) HS11.out.bR (Nat.le_refl _) (.int .i64 0) (.slice none 0 0) (.slice none 0 0)
              refine bodyPost_ret (results_ct rfl _ _ W.heap.size 34 #[.int .i64 0, .slice none 0 0, .slice none 0 0] (0, 0) _ rfl hk huF rfl (by kernel_rfl)) rfl ?_
              rw [HOF.out]
              exact ofNAns_zero (HS11.out.bel.trans (hf.below HS11.out.bel.size))
  · have HR0 := Aside0.mk (show rdR b = (⟨L, [], (rdStop rdK n s2).1⟩, (rdStop rdK n s2).2) by rw [HRN.out, if_neg hl0])
    have hl1 : (L == 0) = false := beq_eq_false_iff_ne.mpr hl0
    clear HRN hl0
    go_loopg [7] n (fun kq v7 w' => ∃ (i j : Nat) (s : RS) (v : Value) (xs : List Kid), v7 = .int .u64 (i : Int) ∧ Aside0 (kq = j ∧ i + j = n ∧ xs.length = i) ∧ Aside0 (rdStop rdK n s2 = (xs ++ (rdStop rdK j s).1, (rdStop rdK j s).2)) ∧ Aside0 (NdSt 80 W g w2.heap.size w' s L (.slice none 0 0) [] v xs))
    case atStart => exact ⟨0, n, s2, .slice none 0 0, [], rfl, ⟨rfl, by omega, rfl⟩, ⟨by simp⟩, ⟨HS3.out⟩⟩
    case round =>
      obtain ⟨i, j, s, v, xs, rfl, HJ, HE, HS⟩ := hrel
      have hbad := HS.out.rd.badC
      by_cases hgo : 0 < j ∧ s.2 = false
      · obtain ⟨j, rfl⟩ : ∃ k, j = k + 1 := ⟨j - 1, by omega⟩
        have HSB := Aside0.mk hgo.2
        rw [hgo.2] at hbad
        have hlt1 : decide ((i : Int) < (n : Int)) = true := decide_eq_true (by have := HJ.out; omega)
        have hlt2 : decide (i < n) = true := decide_eq_true (by have := HJ.out; omega)
        have HWI := Aside0.mk (k_succ i (by have := HJ.out; have := HNB.out; omega))
        have hc0 := HS.out.c.1
        clear hgo
        go_wp2_with (go_at_call 47; refine (rf_text W.heap.size g s 40 _ HS.out.rd (by decide)).mono ?_; rintro e w4 ⟨rfl, hr, hf⟩; have HS4 := Aside0.mk (HS.out.fr hr hf (by decide)); have hd0 := HS4.out.c.1; clear hr hf)
        have HSd := Aside0.mk (HS4.out.below (below_drew (Below.refl w4.heap.size w4)))
        have hc1 := HS4.out.c.2.2
        have hcd : w4.drew.cell? ⟨w2.heap.size, 2, none⟩ = some v := HSd.out.c.2.2
        go_region_law (first | (refine Kd.R_append_step k60 (w0 := W) W.heap.size (by rfl) (.tmp 45) (.tmp 50) 31 60 (.agg #[(.string ⟨#[]⟩), (.int .u64 0)]) 24 rfl Try.underlying31 (by kernel_rfl) rfl (by decide) (by omega) v xs (rdK s).1 [.string (rdText 40 s).1, .int .u64 (rdNum M64 (rdText 40 s).2).1] (fun _ => True) (fun _ => False) rfl rfl (k60_mkM _ _ _ _) (fun _ hk => hk.elim) (fun _ _ => trivial) HS5.out.hK HS5.out.bel HS5.out.bel.size (by have := HJ.out; have := HNB.out; omega) ?_; intro v1 w6 ho hb hgr hat; obtain ⟨Ax, nx, cx, hvx⟩ := R_slice' ho; subst hvx; have hF6 := (show Fr W.heap.size [60] w5 w6 by obtain ⟨inner, h⟩ := Kd.R_own HS5.out.hK; exact Fr.of_grown h (Nat.le_refl _) hgr (by simp)); have HS6 := Aside0.mk (HS5.out.pushK ⟨by decide, by decide⟩ ho hF6 hb); have hf6 := hF6.blk HS5.out.bC (by decide); have hc61 : w6.cell? ⟨w2.heap.size, 2, none⟩ = some v := (blk_cell hf6 2).trans rfl; have hz61 : w6.frozen? ⟨w2.heap.size, 2, none⟩ = false := blk_frozen hf6 2; clear ho hb hgr hat hf6 hF6) | (go_simp; (go_at_call 46; refine (rf_num W.heap.size g _ M64 _ HSd.out.rd).mono ?_; rintro e w5 ⟨rfl, hr, hf⟩; have HS5 := Aside0.mk (HSd.out.fr hr hf (by decide)); have hc51 := HS5.out.c.2.2; have hc5b : (w5.alloc (.cells #[.string (rdText 40 s).1, .int .u64 (rdNum M64 (rdText 40 s).2).1] 60)).cell? ⟨w2.heap.size, 2, none⟩ = some v := (HS5.out.below (below_alloc (Below.refl _ _) _)).c.2.2; clear hr hf)))
        all_goals (
          go_wp2
          go_roundg j
          case measure => have := HJ.out; omega
          case rel => exact ⟨i + 1, j, (rdK s).2, .slice Ax nx cx, xs ++ [(rdK s).1], by rw [HWI.out], ⟨rfl, by have := HJ.out; omega, by have := HJ.out; simp; omega⟩, ⟨stop_snoc _ _ _ _ _ _ HSB.out HE.out⟩, ⟨HS6.out⟩⟩)
      · have HXE := Aside0.mk (show rdStop rdK n s2 = (xs, s) by
          rw [HE.out]
          cases hs : s.2 with
          | true => rw [stop_bad rdK _ hs]; simp
          | false => have : j = 0 := (by omega : ∀ j : Nat, ¬ 0 < j → j = 0) j (fun h => hgo ⟨h, hs⟩); subst this; simp [rdStop])
        have HST := Aside0.mk (show i = n ∨ (i < n ∧ s.2 = true) by
          have h1 := HJ.out
          cases hs : s.2 with
          | true => by_cases hi : i = n
                    · exact .inl hi
                    · exact .inr ⟨by omega, rfl⟩
          | false => exact .inl (by have : ¬ 0 < j := fun h => hgo ⟨h, hs⟩; omega))
        clear hgo
        have HRD := Aside0.mk (show rdR b = ((⟨L, [], xs⟩ : Nod), s) by rw [HR0.out, HXE.out])
        have HXL := Aside0.mk (show xs.length ≤ 1000000 by have := HJ.out; have := HNB.out; omega)
        obtain ⟨A1, n1, hv, _, _⟩ := Kd.R_reads HS.out.hK
        subst hv
        obtain ⟨ca, cb, cc⟩ := HS.out.c
        obtain ⟨ra, rb, rc⟩ := HS.out.r
        have y0 := HS.out.y 0
        have y1 := HS.out.y 1
        have y2 := HS.out.y 2
        have HRC := Aside0.mk (Kd.R_reads' HS.out.hK)
        rcases (show (decide ((i : Int) < (n : Int)) = false ∧ decide (i < n) = false) ∨ (decide ((i : Int) < (n : Int)) = true ∧ decide (i < n) = true ∧ s.2 = true) by
          rcases HST.out with h | h
          · exact .inl ⟨decide_eq_false (by omega), decide_eq_false (by omega)⟩
          · exact .inr ⟨decide_eq_true (by omega), decide_eq_true h.1, h.2⟩) with hcmp | hcmp
        all_goals (
          have hcm1 := hcmp.1
          have hcm2 := hcmp.2
          clear hcmp)
        rotate_left
        · rw [hcm2.2] at hbad
          have hcm3 := hcm2.1
          have HDN := Aside0.mk (show rdDone s = false by rw [← Bool.not_eq_true, rdDone_iff]; intro h; rw [h] at hcm2; cases hcm2.2)
          have HOF := Aside0.mk (show ofR b = (zeroN, 90) by unfold ofR; rw [HRD.out, if_neg (fun h => by rw [HDN.out] at h; cases h.1)])
          clear hcm2
          go_wp2_with ((go_at_call 48; refine (rf_done W.heap.size g s _ HS.out.rd).mono ?_; rw [HDN.out]; rintro e w10 ⟨rfl, rfl⟩))
          obtain ⟨hk, hf⟩ := tri_set (B := W.heap.size) HS.out.bR (Nat.le_refl _) (.int .i64 0) (.slice none 0 0) (.slice none 0 0)
          refine bodyPost_ret (results_ct rfl _ _ W.heap.size 34 #[.int .i64 0, .slice none 0 0, .slice none 0 0] (0, 0) _ rfl hk huF rfl (by kernel_rfl)) rfl ?_
          rw [HOF.out]
          exact ofNAns_zero (HS.out.bel.trans (hf.below HS.out.bel.size))
        cases hd : rdDone s with
        | false =>
          have HOF := Aside0.mk (show ofR b = (zeroN, 90) by unfold ofR; rw [HRD.out, if_neg (by rw [hd]; simp)])
          have HDN := Aside0.mk hd
          clear hd
          go_wp2_with ((go_at_call 48; refine (rf_done W.heap.size g s _ HS.out.rd).mono ?_; rw [HDN.out]; rintro e w10 ⟨rfl, rfl⟩))
          obtain ⟨hk, hf⟩ := tri_set (B := W.heap.size) HS.out.bR (Nat.le_refl _) (.int .i64 0) (.slice none 0 0) (.slice none 0 0)
          refine bodyPost_ret (results_ct rfl _ _ W.heap.size 34 #[.int .i64 0, .slice none 0 0, .slice none 0 0] (0, 0) _ rfl hk huF rfl (by kernel_rfl)) rfl ?_
          rw [HOF.out]
          exact ofNAns_zero (HS.out.bel.trans (hf.below HS.out.bel.size))
        | true =>
          have HDN := Aside0.mk hd
          by_cases hlong : (131072 : Int) < (b.length : Int)
          · have hlo : decide ((131072 : Int) < (b.length : Int)) = true := decide_eq_true hlong
            have HOF := Aside0.mk (show ofR b = (zeroN, 90) by unfold ofR; rw [HRD.out, if_neg (fun h => by have := h.2.1; omega)])
            clear hd hlong
            go_wp2_with ((go_at_call 48; refine (rf_done W.heap.size g s _ HS.out.rd).mono ?_; rw [HDN.out]; rintro e w10 ⟨rfl, rfl⟩))
            obtain ⟨hk, hf⟩ := tri_set (B := W.heap.size) HS.out.bR (Nat.le_refl _) (.int .i64 0) (.slice none 0 0) (.slice none 0 0)
            refine bodyPost_ret (results_ct rfl _ _ W.heap.size 34 #[.int .i64 0, .slice none 0 0, .slice none 0 0] (0, 0) _ rfl hk huF rfl (by kernel_rfl)) rfl ?_
            rw [HOF.out]
            exact ofNAns_zero (HS.out.bel.trans (hf.below HS.out.bel.size))
          · have hlo : decide ((131072 : Int) < (b.length : Int)) = false := decide_eq_false hlong
            by_cases he : nodeE L [] xs = 0
            · have HOF := Aside0.mk (show ofR b = ((⟨L, [], xs⟩ : Nod), 0) by unfold ofR; rw [HRD.out, if_pos ⟨hd, by omega, he⟩])
              have HEE := Aside0.mk he
              clear hd he hlong
              go_wp2_with (first | (go_at_call 48; refine (rf_done W.heap.size g s _ HS.out.rd).mono ?_; rw [HDN.out]; rintro e w10 ⟨rfl, rfl⟩) | (go_at_call 26; refine (rnode_calls L none 0 [] A1 n1 xs _ (Kd.C_nil _ _) (by simp) HRC.out.2.2 HRC.out.2.1 (by simp) HXL.out).mono ?_; rw [HEE.out]; rintro e w11 ⟨rfl, hb11⟩; have HS11 := Aside0.mk (HS.out.below hb11); obtain ⟨da, db, dc⟩ := HS11.out.c; obtain ⟨qa, qb, qc⟩ := HS11.out.r; have x0 := HS11.out.y 0; have x1 := HS11.out.y 1; have x2 := HS11.out.y 2; clear hb11))
              obtain ⟨hk, hf⟩ := tri_set (B := W.heap.size) HS11.out.bR (Nat.le_refl _) (.int .i64 L) (.slice none 0 0) (.slice A1 xs.length n1)
              refine bodyPost_ret (results_ct rfl _ _ W.heap.size 34 #[.int .i64 L, .slice none 0 0, .slice A1 xs.length n1] (0, 0) _ rfl hk huF rfl (by kernel_rfl)) rfl ?_
              rw [HOF.out]
              exact ⟨none, 0, A1, n1, rfl, Nat.le_refl _, HRC.out.2.1, Kd.C_nil _ _, (Kd.R_reads' (hf.R HS11.out.hK (ki_E (by decide)))).2.2, HS11.out.bel.trans (hf.below HS11.out.bel.size)⟩
            · have HOF := Aside0.mk (show ofR b = (zeroN, 90) by unfold ofR; rw [HRD.out, if_neg (fun h => he h.2.2)])
              have he' : (nodeE L [] xs != 0) = true := bne_iff_ne.mpr he
              clear hd he hlong
              go_wp2_with (first | (go_at_call 48; refine (rf_done W.heap.size g s _ HS.out.rd).mono ?_; rw [HDN.out]; rintro e w10 ⟨rfl, rfl⟩) | (go_at_call 26; refine (rnode_calls L none 0 [] A1 n1 xs _ (Kd.C_nil _ _) (by simp) HRC.out.2.2 HRC.out.2.1 (by simp) HXL.out).mono ?_; rintro e w11 ⟨rfl, hb11⟩; have HS11 := Aside0.mk (HS.out.below hb11); obtain ⟨da, db, dc⟩ := HS11.out.c; obtain ⟨qa, qb, qc⟩ := HS11.out.r; have x0 := HS11.out.y 0; have x1 := HS11.out.y 1; have x2 := HS11.out.y 2; clear hb11))
              obtain ⟨hk, hf⟩ := tri_set (B := W.heap.size) HS11.out.bR (Nat.le_refl _) (.int .i64 0) (.slice none 0 0) (.slice none 0 0)
              refine bodyPost_ret (results_ct rfl _ _ W.heap.size 34 #[.int .i64 0, .slice none 0 0, .slice none 0 0] (0, 0) _ rfl hk huF rfl (by kernel_rfl)) rfl ?_
              rw [HOF.out]
              exact ofNAns_zero (HS11.out.bel.trans (hf.below HS11.out.bel.size))
end Go.Proofs.Ytdbgfmiokmempaa.Sep
