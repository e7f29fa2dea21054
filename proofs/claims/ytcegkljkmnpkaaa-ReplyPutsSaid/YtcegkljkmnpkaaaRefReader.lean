/- The reference's reader of records: its methods tell what those of package pack's reader tell. Conditions: the bounds of the statements. -/
import Derived.Test.YtcegkljkmnpkaaaReader2
namespace Go.Proofs.Ytcegkljkmnpkaaa.Sep
open Go.RowKit Go.Proofs.Ytcegkljkmnpkaaa.PCore Go.Proofs.Ytcegkljkmnpkaaa.Plain Go.Proofs.YtcegkljkmnpkaaaW.PrintWords Go.Proofs.YtcegkljkmnpkaaaW.PrintLast Go.Proofs.YtcegkljkmnpkaaaW.PrintMore
set_option maxHeartbeats 1000000 in
theorem rf_fail (B g : Nat) (s : RS) (W : World) (h : RdAt 91 B g W s) :
    Calls Try.prog 83 #[.pointer (some ⟨g, 0, none⟩)] W fun e W1 => e = .returned (.tuple #[]) ∧ RdAt 91 B g W1 failed ∧ Fr B [91] W W1 := by
  obtain ⟨A, c, hb, hg, hc, hC, hA, hF⟩ := h
  have hc0 : W.cell? ⟨g, 0, none⟩ = some (.slice A s.1.length c) := (blk_cell hb 0).trans rfl
  have hc1 : W.cell? ⟨g, 1, none⟩ = some (.bool s.2) := (blk_cell hb 1).trans rfl
  have hf0 := blk_frozen hb 0
  have hf1 := blk_frozen hb 1
  have HK := Aside0.mk hb
  have HG := Aside0.mk hg
  clear hb hg hc hC hA hF
  go_enter Try.func83, Try.ntmps83
  go_wp2
  go_end0
  refine ⟨rfl, RdAt.put (A' := none) (c' := 0) (s' := failed) HK.out (by decide) HG.out (Nat.le_refl _) (Kd.C_nil _ _) (fun _ ad e => by cases e) fine_failed, ?_⟩
  exact ((Fr.refl B _ W).set HK.out HG.out (by decide) 0 _).trans ((Fr.refl B _ _).set (blk_set HK.out 0 _) HG.out (by decide) 1 _)
set_option maxHeartbeats 2000000 in
set_option maxRecDepth 100000 in
theorem rf_num (B g : Nat) (s : RS) (most : Int) (W : World) (h : RdAt 91 B g W s) :
    Calls Try.prog 47 #[.pointer (some ⟨g, 0, none⟩), .int .u64 most] W fun e W1 => e = .returned (.int .u64 (rdNum most s).1) ∧ RdAt 91 B g W1 (rdNum most s).2 ∧ Fr B [91] W W1 := by
  obtain ⟨l, bad⟩ := s
  have HR := Aside0.mk h
  obtain ⟨A, c, hb, hg, hc, hC, hA, hF⟩ := h
  have HK := Aside0.mk hb
  have HG := Aside0.mk hg
  cases bad with
  | true =>
    have hl : l = [] := hF.2.2 rfl
    subst hl
    have HE := Aside0.mk (show rdNum most ([], true) = (0, failed) by rfl)
    have HP := Aside0.mk (refLeb_none A c [] W hC hc ⟨fun x hx => by simp at hx, by simp, fun h => by simp at h⟩ rfl)
    have hc0 : W.cell? ⟨g, 0, none⟩ = some (.slice A 0 c) := (blk_cell hb 0).trans rfl
    clear hb hg hc hC hA hF
    go_enter Try.func47, Try.ntmps47
    go_wp2_with (first | (go_at_call 82; refine HP.out.mono ?_; rintro e w1 ⟨rfl, hb1⟩; have HB1 := Aside0.mk hb1; have HK1 := Aside0.mk (blk_below HK.out hb1); have hc1 : w1.cell? ⟨g, 0, none⟩ = some (.slice A 0 c) := (blk_cell HK1.out 0).trans rfl; have hc2 : w1.cell? ⟨g, 1, none⟩ = some (.bool true) := (blk_cell HK1.out 1).trans rfl; have hf1 := blk_frozen HK1.out 0; clear hb1 hc0) | (go_at_call 83; refine (rf_fail B g ([], true) w1 (HR.out.below HB1.out)).mono ?_; rintro e w2 ⟨rfl, hr2, hf2⟩; have HR2 := Aside0.mk hr2; have HF2 := Aside0.mk hf2; clear hr2 hf2))
    go_ret
    rw [HE.out]
    exact ⟨rfl, HR2.out, (Fr.of_below HB1.out).trans HF2.out⟩
  | false =>
    have hc0 : W.cell? ⟨g, 0, none⟩ = some (.slice A l.length c) := (blk_cell hb 0).trans rfl
    cases hd : dec 0 l with
    | none =>
      have HE := Aside0.mk (show rdNum most (l, false) = (0, failed) by simp [rdNum, hd])
      have HP := Aside0.mk (refLeb_none A c l W hC hc hF hd)
      clear hb hg hc hC hA hF hd
      go_enter Try.func47, Try.ntmps47
      go_wp2_with (first | (go_at_call 82; refine HP.out.mono ?_; rintro e w1 ⟨rfl, hb1⟩; have HB1 := Aside0.mk hb1; have HK1 := Aside0.mk (blk_below HK.out hb1); have hc1 : w1.cell? ⟨g, 0, none⟩ = some (.slice A l.length c) := (blk_cell HK1.out 0).trans rfl; have hc2 : w1.cell? ⟨g, 1, none⟩ = some (.bool false) := (blk_cell HK1.out 1).trans rfl; have hf1 := blk_frozen HK1.out 0; clear hb1 hc0) | (go_at_call 83; refine (rf_fail B g (l, false) w1 (HR.out.below HB1.out)).mono ?_; rintro e w2 ⟨rfl, hr2, hf2⟩; have HR2 := Aside0.mk hr2; have HF2 := Aside0.mk hf2; clear hr2 hf2))
      go_ret
      rw [HE.out]
      exact ⟨rfl, HR2.out, (Fr.of_below HB1.out).trans HF2.out⟩
    | some p =>
      obtain ⟨n, k⟩ := p
      have HP := Aside0.mk (refLeb_some A c l n k W hC hc hF hd)
      obtain ⟨_, _, _, _, hk, xs, hx⟩ := dec_some l 0 n k hF.1 hd
      have hkl : k ≤ l.length := by rw [hx, List.length_append]; omega
      obtain ⟨A', hcut, hCut, hA'⟩ := cut_front A l c k hkl hc
      have HCut := Aside0.mk hCut
      have HA' := Aside0.mk hA'
      have HFine := Aside0.mk hF
      have HC := Aside0.mk hC
      have HA := Aside0.mk hA
      have hc' : l.length ≤ c := hc
      have HCl := Aside0.mk (show (l.drop k).length ≤ c - k by rw [List.length_drop]; omega)
      by_cases hmn : most < n
      · have HE := Aside0.mk (show rdNum most (l, false) = (0, failed) by simp [rdNum, hd, hmn])
        clear hb hg hc hc' hC hA hF hd hk hx hkl hcut hCut hA'
        go_enter Try.func47, Try.ntmps47
        go_wp2_with (first | (go_at_call 82; refine HP.out.mono ?_; rintro e w1 ⟨rfl, hb1⟩; have HB1 := Aside0.mk hb1; have HK1 := Aside0.mk (blk_below HK.out hb1); have hc1 : w1.cell? ⟨g, 0, none⟩ = some (.slice A l.length c) := (blk_cell HK1.out 0).trans rfl; have hc2 : w1.cell? ⟨g, 1, none⟩ = some (.bool false) := (blk_cell HK1.out 1).trans rfl; have hf1 := blk_frozen HK1.out 0; clear hb1 hc0) | (go_at_call 83; refine (rf_fail B g (l, false) w1 (HR.out.below HB1.out)).mono ?_; rintro e w2 ⟨rfl, hr2, hf2⟩; have HR2 := Aside0.mk hr2; have HF2 := Aside0.mk hf2; clear hr2 hf2))
        go_ret
        rw [HE.out]
        exact ⟨rfl, HR2.out, (Fr.of_below HB1.out).trans HF2.out⟩
      · have HE := Aside0.mk (show rdNum most (l, false) = (n, (l.drop k, false)) by simp [rdNum, hd, hmn])
        have HDL := Aside0.mk (show (l.drop k).length ≤ l.length by rw [List.length_drop]; omega)
        have HFd := Aside0.mk (show Fine (l.drop k, false) from fine_drop HFine.out k)
        clear hb hg hc hc' hC hA hF hd hk hx hkl hCut hA'
        generalize l.drop k = d at hcut HCut HE HCl HFd HDL
        go_enter Try.func47, Try.ntmps47
        go_wp2_with (first | (go_at_call 82; refine HP.out.mono ?_; rintro e w1 ⟨rfl, hb1⟩; have HB1 := Aside0.mk hb1; have HK1 := Aside0.mk (blk_below HK.out hb1); have hc1 : w1.cell? ⟨g, 0, none⟩ = some (.slice A l.length c) := (blk_cell HK1.out 0).trans rfl; have hc2 : w1.cell? ⟨g, 1, none⟩ = some (.bool false) := (blk_cell HK1.out 1).trans rfl; have hf1 := blk_frozen HK1.out 0; clear hb1 hc0) | (go_at_call 83; refine (rf_fail B g (l, false) w1 (HR.out.below HB1.out)).mono ?_; rintro e w2 ⟨rfl, hr2, hf2⟩; have HR2 := Aside0.mk hr2; have HF2 := Aside0.mk hf2; clear hr2 hf2))
        go_ret
        rw [HE.out]
        refine ⟨rfl, RdAt.put1 (A' := A') HK1.out (by decide) HG.out HCl.out (HCut.out _ (Kd.C_below HC.out HB1.out)) (fun hp ad e => ?_) HFd.out, (Fr.of_below HB1.out).set HK.out HG.out (by decide) 0 _⟩
        obtain ⟨ad0, e0, eb⟩ := HA'.out ad e
        rw [eb]
        exact (HA.out (by have := HDL.out; omega) ad0 e0).imp id (fun h => (Fr.of_below (B := B) (T := []) HB1.out).ty h (by simp))
set_option maxHeartbeats 1000000 in
theorem rf_flag (B g : Nat) (s : RS) (W : World) (h : RdAt 91 B g W s) :
    Calls Try.prog 48 #[.pointer (some ⟨g, 0, none⟩)] W fun e W1 => e = .returned (.bool (rdFlag s).1) ∧ RdAt 91 B g W1 (rdFlag s).2 ∧ Fr B [91] W W1 := by
  have HN := Aside0.mk (rf_num B g s 1 W h)
  clear h
  go_enter Try.func48, Try.ntmps48
  go_wp2_with (go_at_call 47; refine HN.out.mono ?_; rintro e w1 ⟨rfl, hr, hf⟩; have HR := Aside0.mk hr; have HF := Aside0.mk hf; clear hr hf)
  go_ret
  exact ⟨rfl, HR.out, HF.out⟩
set_option maxHeartbeats 1000000 in
theorem rf_done (B g : Nat) (s : RS) (W : World) (h : RdAt 91 B g W s) :
    Calls Try.prog 53 #[.pointer (some ⟨g, 0, none⟩)] W fun e W1 => e = .returned (.bool (rdDone s)) ∧ W = W1 := by
  obtain ⟨l, bad⟩ := s
  obtain ⟨A, c, hb, hg, hc, hC, hA, hF⟩ := h
  have hc0 : W.cell? ⟨g, 0, none⟩ = some (.slice A l.length c) := (blk_cell hb 0).trans rfl
  have hc1 : W.cell? ⟨g, 1, none⟩ = some (.bool bad) := (blk_cell hb 1).trans rfl
  have HE := Aside0.mk (show decide (l = []) = ((l.length : Int) == 0) by cases l <;> simp <;> omega)
  cases bad with
  | true =>
    clear hb hg hc hC hA hF
    go_enter Try.func53, Try.ntmps53
    go_wp2
    go_ret
    exact ⟨rfl, rfl⟩
  | false =>
    clear hb hg hc hC hA hF
    go_enter Try.func53, Try.ntmps53
    go_wp2
    go_ret
    rw [show rdDone (l, false) = ((l.length : Int) == 0) from HE.out]
    exact ⟨rfl, rfl⟩
set_option maxHeartbeats 2000000 in
set_option maxRecDepth 100000 in
theorem rf_text (B g : Nat) (s : RS) (most : Int) (W : World) (h : RdAt 91 B g W s) (hm : -9223372036854775808 ≤ most ∧ most < 9223372036854775808) :
    Calls Try.prog 49 #[.pointer (some ⟨g, 0, none⟩), .int .i64 most] W fun e W1 => e = .returned (.string (rdText most s).1) ∧ RdAt 91 B g W1 (rdText most s).2 ∧ Fr B [91] W W1 := by
  by_cases hneg : most < 0
  · have HE := Aside0.mk (show rdText most s = (⟨#[]⟩, failed) by rw [rdText, if_pos hneg])
    have HF := Aside0.mk (rf_fail B g s W h)
    clear h
    go_enter Try.func49, Try.ntmps49
    go_wp2_with (go_at_call 83; refine HF.out.mono ?_; rintro e w1 ⟨rfl, hr, hf⟩; have HR := Aside0.mk hr; have HF1 := Aside0.mk hf; clear hr hf)
    go_ret
    rw [HE.out]
    exact ⟨rfl, HR.out, HF1.out⟩
  · have hwm : IntKind.u64.wrap most = most := by rw [IntKind.wrap_u64]; omega
    have hN := rf_num B g s most W h
    have hfine := fine_num h.fine most
    have hnb := num_bad (s := s) most
    have hin := num_in h.fine most (by omega)
    have hE : rdText most s = (if (rdNum most s).2.2 = true then (⟨#[]⟩, (rdNum most s).2) else if ((rdNum most s).2.1.length : Int) < (rdNum most s).1 then (⟨#[]⟩, failed) else (strOfNums ((rdNum most s).2.1.take (rdNum most s).1.toNat), ((rdNum most s).2.1.drop (rdNum most s).1.toNat, false))) := by rw [rdText, if_neg hneg]
    generalize rdNum most s = p at hN hfine hnb hin hE
    obtain ⟨n, l, bad⟩ := p
    obtain ⟨m, rfl⟩ : ∃ m : Nat, n = (m : Int) := ⟨n.toNat, (Int.toNat_of_nonneg hin.1).symm⟩
    clear h
    have HFi := Aside0.mk hfine
    cases bad with
    | true =>
      have hn : m = 0 := by have := hnb rfl; simp only at this; omega
      subst hn
      have hl : l = [] := hfine.2.2 rfl
      subst hl
      have HE := Aside0.mk (hE.trans (if_pos rfl))
      rw [← hwm] at hN
      have HN := Aside0.mk hN
      clear hN hfine hnb hin hE hwm hm
      go_enter Try.func49, Try.ntmps49
      go_wp2_with (first | (go_at_call 47; refine HN.out.mono ?_; rintro e w1 ⟨rfl, hr, hf⟩; have HR := Aside0.mk hr; have HF1 := Aside0.mk hf; clear hr hf; obtain ⟨A, c, hb, hg, hc, hC, hA, hF⟩ := HR.out; have hc0 : w1.cell? ⟨g, 0, none⟩ = some (.slice A 0 c) := (blk_cell hb 0).trans rfl; have hc1 : w1.cell? ⟨g, 1, none⟩ = some (.bool true) := (blk_cell hb 1).trans rfl; clear hb hg hc hC hA hF) | (go_at_call 83; refine (rf_fail B g _ _ HR.out).mono ?_; rintro e w2 ⟨rfl, hr2, hf2⟩; have HR2 := Aside0.mk hr2; have HF2 := Aside0.mk hf2; clear hr2 hf2))
      go_ret
      rw [HE.out]
      exact ⟨rfl, HR2.out, HF1.out.trans HF2.out⟩
    | false =>
      have hl1 : l.length ≤ 1000000 := hfine.2.1
      have hwl : IntKind.u64.wrap (l.length : Int) = (l.length : Int) := by rw [IntKind.wrap_u64]; omega
      by_cases hlong : (l.length : Int) < (m : Int)
      · have HE := Aside0.mk (hE.trans ((if_neg (by simp)).trans (if_pos hlong)))
        rw [← hwm] at hN
        have HN := Aside0.mk hN
        clear hN hfine hnb hin hE hwm hm hl1
        go_enter Try.func49, Try.ntmps49
        go_wp2_with (first | (go_at_call 47; refine HN.out.mono ?_; rintro e w1 ⟨rfl, hr, hf⟩; have HR := Aside0.mk hr; have HF1 := Aside0.mk hf; clear hr hf; obtain ⟨A, c, hb, hg, hc, hC, hA, hF⟩ := HR.out; have hc0 : w1.cell? ⟨g, 0, none⟩ = some (.slice A l.length c) := (blk_cell hb 0).trans rfl; have hc1 : w1.cell? ⟨g, 1, none⟩ = some (.bool false) := (blk_cell hb 1).trans rfl; clear hb hg hc hC hA hF) | (go_at_call 83; refine (rf_fail B g _ _ HR.out).mono ?_; rintro e w2 ⟨rfl, hr2, hf2⟩; have HR2 := Aside0.mk hr2; have HF2 := Aside0.mk hf2; clear hr2 hf2) | (go_at_call 83; refine (rf_fail B g _ _ HR.out).mono ?_; rintro e w2 ⟨rfl, hr2, hf2⟩; have HR2 := Aside0.mk hr2; have HF2 := Aside0.mk hf2; clear hr2 hf2))
        go_ret
        rw [HE.out]
        exact ⟨rfl, HR2.out, HF1.out.trans HF2.out⟩
      · have HE := Aside0.mk (hE.trans ((if_neg (by simp)).trans (if_neg hlong)))
        rw [← hwm] at hN
        have HN := Aside0.mk hN
        have hHE : rdText most s = (strOfNums (l.take m), (l.drop m, false)) := HE.out
        clear HE
        have HE := Aside0.mk hHE
        have HD := Aside0.mk (show Fine (l.drop m, false) from fine_drop hfine m)
        have hDl : (l.drop m).length ≤ l.length - m := by rw [List.length_drop]; omega
        have hdcut := fun (A : Option Addr) (c : Nat) (hc : l.length ≤ c) => cut_text A l c m (by omega) hc
        generalize l.drop m = d at HE hHE HD hDl hdcut
        have HDL := Aside0.mk hDl
        have HDC := Aside0.mk hdcut
        clear hN hfine hnb hin hE hwm hm hl1 hHE hDl hdcut
        go_enter Try.func49, Try.ntmps49
        go_wp2_with (first | (go_at_call 47; refine HN.out.mono ?_; rintro e w1 ⟨rfl, hr, hf⟩; have HR := Aside0.mk hr; have HF1 := Aside0.mk hf; clear hr hf; obtain ⟨A, c, hb, hg, hc, hC, hA, hF⟩ := HR.out; have hc0 : w1.cell? ⟨g, 0, none⟩ = some (.slice A l.length c) := (blk_cell hb 0).trans rfl; have hc1 : w1.cell? ⟨g, 1, none⟩ = some (.bool false) := (blk_cell hb 1).trans rfl; have hf0 := blk_frozen hb 0; have HK1 := Aside0.mk hb; have HG := Aside0.mk hg; have hc' : l.length ≤ c := hc; obtain ⟨A', hcut, hCut, hA'⟩ := HDC.out A c hc; have hhead := fun W2 => cut_head A l c m (by omega) hc W2; have hstr := head_str A l c m (by omega) w1 hC; have HCut := Aside0.mk hCut; have HA' := Aside0.mk hA'; have HC := Aside0.mk hC; have HA := Aside0.mk hA; have HCl := Aside0.mk (show d.length ≤ c - m by have := HDL.out; omega); clear hb hg hc hc' hC hA hF hCut hA') | (go_at_call 83; refine (rf_fail B g _ _ HR.out).mono ?_; rintro e w2 ⟨rfl, hr2, hf2⟩; have HR2 := Aside0.mk hr2; have HF2 := Aside0.mk hf2; clear hr2 hf2))
        go_ret
        rw [HE.out]
        refine ⟨rfl, RdAt.put1 (A' := A') HK1.out (by decide) HG.out HCl.out (HCut.out _ HC.out) (fun hp ad e => ?_) HD.out, HF1.out.set' HK1.out HG.out (by decide) 0 _⟩
        obtain ⟨ad0, e0, eb⟩ := HA'.out ad e
        rw [eb]
        exact HA.out (by have := HDL.out; omega) ad0 e0
end Go.Proofs.Ytcegkljkmnpkaaa.Sep
