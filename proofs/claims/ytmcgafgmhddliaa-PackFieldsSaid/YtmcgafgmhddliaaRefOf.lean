/- The reference's Of: what it makes of bytes and kinds. Conditions: the bounds of the statements. -/
import Derived.Test.YtmcgafgmhddliaaPackOf2
import Derived.Test.YtmcgafgmhddliaaRefReader
namespace Go.Proofs.Ytmcgafgmhddliaa.Sep
open Go.RowKit Go.Proofs.Ytmcgafgmhddliaa.PCore Go.Proofs.Ytmcgafgmhddliaa.Plain Go.Proofs.YtmcgafgmhddliaaW.PrintWords Go.Proofs.YtmcgafgmhddliaaW.PrintLast Go.Proofs.YtmcgafgmhddliaaW.PrintMore
open Go.Proofs.Ytmcgafgmhddliaa.PDat (S70 k70 z70 rd_T70 at_T70 k70_mkM)
/-- A reader of the reference's, made of bytes that came in. -/
theorem rf_box {W w3 : World} {A0 : Option Addr} {c0 : Nat} {b : List Int} (hC0 : Kd.C (Kd.int .u8) W A0 b.length b) (hc0 : b.length ≤ c0) (hF : Fine (b, false)) (hB : Below W.heap.size W w3) :
    RdAt 68 W.heap.size w3.heap.size (w3.alloc (.cells #[.slice A0 b.length c0, .bool false] 68)) (b, false) := by
  refine ⟨A0, c0, blk_new _ _, hB.size, hc0, Kd.C_below (Kd.C_below hC0 hB) (below_alloc (Below.refl _ _) _), fun hp ad e => .inl ?_, hF⟩
  obtain ⟨ad', e', hc⟩ := (show ReadsInt W .u8 A0 b.length b from Kd.reads_of_C (d := 0) hC0).2.2 hp
  rw [e] at e'
  injection e' with e'
  subst e'
  exact World.block_lt_of_cell? _ _ (hc 0 hp)
set_option maxHeartbeats 4000000 in
set_option maxRecDepth 100000 in
theorem ref_of (A0 : Option Addr) (c0 : Nat) (b : List Int) (A1 : Option Addr) (c1 : Nat) (ks : List Int) (W : World) (hC0 : Kd.C (Kd.int .u8) W A0 b.length b) (hc0 : b.length ≤ c0) (hF : Fine (b, false)) (hC1 : Kd.C (Kd.int .i64) W A1 ks.length ks) (hn : ks.length ≤ 1000) :
    Calls Try.prog 55 #[.slice A0 b.length c0, .slice A1 ks.length c1] W fun e W1 => ∃ v, e = .returned (.tuple #[v, .int .i64 (ofB ks b).2]) ∧ Kd.R k70 70 W1 W.heap.size (fun _ => True) v (ofB ks b).1 ∧ Below W.heap.size W W1 := by
  have HP := Aside0.mk (rf_box hC0 hc0 hF (Below.refl _ _))
  have HC := Aside0.mk hC1
  have HN := Aside0.mk hn
  clear hC0 hF hC1 hn hc0
  have huF := Try.underlying70
  go_enter Try.func55, Try.ntmps55
  go_wp2
  go_loopg [7, 16] ks.length (fun kq v7 v16 w' => ∃ (i : Nat) (s : RS) (xs : List S70), v16 = .int .i64 i ∧ Aside0 (i ≤ ks.length ∧ kq = ks.length - i ∧ xs.length = i) ∧ Aside0 (ofL ks (b, false) = (ofL (ks.drop i) s).map (fun p => (xs ++ p.1, p.2))) ∧ Aside0 (RdAt 68 W.heap.size W.heap.size w' s) ∧ Aside0 (Kd.R k70 70 w' W.heap.size (fun _ => True) v7 xs) ∧ Aside0 (Below W.heap.size W w'))
  case atStart => exact ⟨0, (b, false), [], rfl, ⟨by omega, by omega, rfl⟩, ⟨by cases h : ofL ks (b, false) <;> simp [h]⟩, ⟨HP.out⟩, ⟨Kd.R_nil _ _ _ _ _⟩, ⟨below_alloc (Below.refl _ _) _⟩⟩
  case round =>
    obtain ⟨i, s, xs, rfl, HI, HE, HRd, HO, HB4⟩ := hrel
    by_cases hlt : i < ks.length
    · obtain ⟨ad, rfl, h0⟩ := (show ReadsInt wr .i64 A1 ks.length ks from Kd.reads_of_C (d := 0) (Kd.C_below HC.out HB4.out)).at_ (i : Int) (by omega) (by omega)
      simp only [Int.toNat_natCast] at h0
      have hD := drop_rd ks i hlt
      generalize rd ks (i : Int) = k at h0 hD
      have hlt' : (i : Int) < (ks.length : Int) := by omega
      have HWI := Aside0.mk (show wrap64 ((i : Int) + 1) = ((i + 1 : Nat) : Int) by have := HN.out; unfold wrap64; omega)
      have hE := HE.out
      rw [hD] at hE
      have HE2 := Aside0.mk hE
      clear hD hE HE
      by_cases hk : k = 1 ∨ k = 2 ∨ k = 3
      · rcases hk with hk1 | hk1 | hk1
        · subst hk1
          go_wp2_with (first | (go_at_call 50; refine (rf_num W.heap.size W.heap.size s 18446744073709551615 _ (HRd.out.below (below_alloc (Below.refl _ _) _))).mono ?_; rintro e w2 ⟨rfl, hr, hf⟩; have HR2 := Aside0.mk hr; have HF2 := Aside0.mk (Fr.alloc hf); have hk := hf.blk (blk_new wr _) (by decide); have HK := Aside0.mk hk; have hc0 : w2.cell? ⟨wr.heap.size, 0, none⟩ = some (.int .i64 1) := (blk_cell hk 0).trans rfl; have hc1 : w2.cell? ⟨wr.heap.size, 1, none⟩ = some (.int .u64 0) := (blk_cell hk 1).trans rfl; have hc2 : w2.cell? ⟨wr.heap.size, 2, none⟩ = some (.string ⟨#[]⟩) := (blk_cell hk 2).trans rfl; have hc3 : w2.cell? ⟨wr.heap.size, 3, none⟩ = some (.bool false) := (blk_cell hk 3).trans rfl; have hz := blk_frozen hk 1; clear hr hf hk) | (at_builtin; refine Kd.R_append k70 (w0 := W) (W := (w2.setCell ⟨wr.heap.size, 1, none⟩ (.int .u64 (rdNum 18446744073709551615 s).1))) W.heap.size rfl (.tmp 38) (.tmp 40) 63 70 (.agg #[.int .i64 0, .int .u64 0, .string ⟨#[]⟩, .bool false]) 40 rfl Try.underlying63 (by kernel_rfl) rfl (by decide) (by omega) u7 xs (rdF 1 s).1 [.int .i64 1, .int .u64 (rdNum 18446744073709551615 s).1, .string ⟨#[]⟩, .bool false] (fun _ => True) (fun _ => False) rfl (by first | rfl | (go_simp; done) | (go_simp; rfl)) ?aP (fun _ hk => hk.elim) ?aF ?aO ?aB ?aS ?aL ?_; (case aP => exact k70_mkM _ _ _ (rdF 1 s).1); (case aF => exact fun _ _ => trivial); (case aO => exact (HF2.out.set_new (Nat.le_refl _) 1 _).R HO.out (k_E (by decide))); (case aB => exact HB4.out.trans ((HF2.out.set_new (Nat.le_refl _) 1 _).below HB4.out.size)); (case aS => exact (HB4.out.trans ((HF2.out.set_new (Nat.le_refl _) 1 _).below HB4.out.size)).size); (case aL => have := HI.out; have := HN.out; omega); intro v3 w3 ho hb hg hat; have HO3 := Aside0.mk ho; have HF3 := Aside0.mk (show Fr W.heap.size [70] (w2.setCell ⟨wr.heap.size, 1, none⟩ (.int .u64 (rdNum 18446744073709551615 s).1)) w3 by obtain ⟨inner, h⟩ := Kd.R_own ((HF2.out.set_new (Nat.le_refl _) 1 _).R HO.out (k_E (by decide))); exact Fr.of_grown h (Nat.le_refl _) hg (by simp)); have HB6 := Aside0.mk hb; clear ho hb hg hat))
          go_roundg (ks.length - (i + 1))
          case measure => have := HI.out; omega
          case rel => exact ⟨i + 1, (rdF 1 s).2, xs ++ [(rdF 1 s).1], by rw [HWI.out], ⟨by omega, rfl, by have := HI.out; simp; omega⟩, ⟨ofL_step (by decide) HE2.out⟩, ⟨(HR2.out.fr ((Fr.refl W.heap.size [70] w2).set HK.out HB4.out.size (by simp) 1 _) (by decide)).fr HF3.out (by decide)⟩, ⟨HO3.out⟩, ⟨HB6.out⟩⟩
        · subst hk1
          go_wp2_with (first | (go_at_call 51; refine (rf_text W.heap.size W.heap.size s 131072 _ (HRd.out.below (below_alloc (Below.refl _ _) _)) (by decide)).mono ?_; rintro e w2 ⟨rfl, hr, hf⟩; have HR2 := Aside0.mk hr; have HF2 := Aside0.mk (Fr.alloc hf); have hk := hf.blk (blk_new wr _) (by decide); have HK := Aside0.mk hk; have hc0 : w2.cell? ⟨wr.heap.size, 0, none⟩ = some (.int .i64 2) := (blk_cell hk 0).trans rfl; have hc1 : w2.cell? ⟨wr.heap.size, 1, none⟩ = some (.int .u64 0) := (blk_cell hk 1).trans rfl; have hc2 : w2.cell? ⟨wr.heap.size, 2, none⟩ = some (.string ⟨#[]⟩) := (blk_cell hk 2).trans rfl; have hc3 : w2.cell? ⟨wr.heap.size, 3, none⟩ = some (.bool false) := (blk_cell hk 3).trans rfl; have hz := blk_frozen hk 2; clear hr hf hk) | (at_builtin; refine Kd.R_append k70 (w0 := W) (W := (w2.setCell ⟨wr.heap.size, 2, none⟩ (.string (rdText 131072 s).1))) W.heap.size rfl (.tmp 38) (.tmp 40) 63 70 (.agg #[.int .i64 0, .int .u64 0, .string ⟨#[]⟩, .bool false]) 40 rfl Try.underlying63 (by kernel_rfl) rfl (by decide) (by omega) u7 xs (rdF 2 s).1 [.int .i64 2, .int .u64 0, .string (rdText 131072 s).1, .bool false] (fun _ => True) (fun _ => False) rfl (by first | rfl | (go_simp; done) | (go_simp; rfl)) ?aP (fun _ hk => hk.elim) ?aF ?aO ?aB ?aS ?aL ?_; (case aP => exact k70_mkM _ _ _ (rdF 2 s).1); (case aF => exact fun _ _ => trivial); (case aO => exact (HF2.out.set_new (Nat.le_refl _) 2 _).R HO.out (k_E (by decide))); (case aB => exact HB4.out.trans ((HF2.out.set_new (Nat.le_refl _) 2 _).below HB4.out.size)); (case aS => exact (HB4.out.trans ((HF2.out.set_new (Nat.le_refl _) 2 _).below HB4.out.size)).size); (case aL => have := HI.out; have := HN.out; omega); intro v3 w3 ho hb hg hat; have HO3 := Aside0.mk ho; have HF3 := Aside0.mk (show Fr W.heap.size [70] (w2.setCell ⟨wr.heap.size, 2, none⟩ (.string (rdText 131072 s).1)) w3 by obtain ⟨inner, h⟩ := Kd.R_own ((HF2.out.set_new (Nat.le_refl _) 2 _).R HO.out (k_E (by decide))); exact Fr.of_grown h (Nat.le_refl _) hg (by simp)); have HB6 := Aside0.mk hb; clear ho hb hg hat))
          go_roundg (ks.length - (i + 1))
          case measure => have := HI.out; omega
          case rel => exact ⟨i + 1, (rdF 2 s).2, xs ++ [(rdF 2 s).1], by rw [HWI.out], ⟨by omega, rfl, by have := HI.out; simp; omega⟩, ⟨ofL_step (by decide) HE2.out⟩, ⟨(HR2.out.fr ((Fr.refl W.heap.size [70] w2).set HK.out HB4.out.size (by simp) 2 _) (by decide)).fr HF3.out (by decide)⟩, ⟨HO3.out⟩, ⟨HB6.out⟩⟩
        · subst hk1
          go_wp2_with (first | (go_at_call 52; refine (rf_flag W.heap.size W.heap.size s _ (HRd.out.below (below_alloc (Below.refl _ _) _))).mono ?_; rintro e w2 ⟨rfl, hr, hf⟩; have HR2 := Aside0.mk hr; have HF2 := Aside0.mk (Fr.alloc hf); have hk := hf.blk (blk_new wr _) (by decide); have HK := Aside0.mk hk; have hc0 : w2.cell? ⟨wr.heap.size, 0, none⟩ = some (.int .i64 3) := (blk_cell hk 0).trans rfl; have hc1 : w2.cell? ⟨wr.heap.size, 1, none⟩ = some (.int .u64 0) := (blk_cell hk 1).trans rfl; have hc2 : w2.cell? ⟨wr.heap.size, 2, none⟩ = some (.string ⟨#[]⟩) := (blk_cell hk 2).trans rfl; have hc3 : w2.cell? ⟨wr.heap.size, 3, none⟩ = some (.bool false) := (blk_cell hk 3).trans rfl; have hz := blk_frozen hk 3; clear hr hf hk) | (at_builtin; refine Kd.R_append k70 (w0 := W) (W := (w2.setCell ⟨wr.heap.size, 3, none⟩ (.bool (rdFlag s).1))) W.heap.size rfl (.tmp 38) (.tmp 40) 63 70 (.agg #[.int .i64 0, .int .u64 0, .string ⟨#[]⟩, .bool false]) 40 rfl Try.underlying63 (by kernel_rfl) rfl (by decide) (by omega) u7 xs (rdF 3 s).1 [.int .i64 3, .int .u64 0, .string ⟨#[]⟩, .bool (rdFlag s).1] (fun _ => True) (fun _ => False) rfl (by first | rfl | (go_simp; done) | (go_simp; rfl)) ?aP (fun _ hk => hk.elim) ?aF ?aO ?aB ?aS ?aL ?_; (case aP => exact k70_mkM _ _ _ (rdF 3 s).1); (case aF => exact fun _ _ => trivial); (case aO => exact (HF2.out.set_new (Nat.le_refl _) 3 _).R HO.out (k_E (by decide))); (case aB => exact HB4.out.trans ((HF2.out.set_new (Nat.le_refl _) 3 _).below HB4.out.size)); (case aS => exact (HB4.out.trans ((HF2.out.set_new (Nat.le_refl _) 3 _).below HB4.out.size)).size); (case aL => have := HI.out; have := HN.out; omega); intro v3 w3 ho hb hg hat; have HO3 := Aside0.mk ho; have HF3 := Aside0.mk (show Fr W.heap.size [70] (w2.setCell ⟨wr.heap.size, 3, none⟩ (.bool (rdFlag s).1)) w3 by obtain ⟨inner, h⟩ := Kd.R_own ((HF2.out.set_new (Nat.le_refl _) 3 _).R HO.out (k_E (by decide))); exact Fr.of_grown h (Nat.le_refl _) hg (by simp)); have HB6 := Aside0.mk hb; clear ho hb hg hat))
          go_roundg (ks.length - (i + 1))
          case measure => have := HI.out; omega
          case rel => exact ⟨i + 1, (rdF 3 s).2, xs ++ [(rdF 3 s).1], by rw [HWI.out], ⟨by omega, rfl, by have := HI.out; simp; omega⟩, ⟨ofL_step (by decide) HE2.out⟩, ⟨(HR2.out.fr ((Fr.refl W.heap.size [70] w2).set HK.out HB4.out.size (by simp) 3 _) (by decide)).fr HF3.out (by decide)⟩, ⟨HO3.out⟩, ⟨HB6.out⟩⟩
      · have HE3 := Aside0.mk (show ofL ks (b, false) = none by rw [HE2.out]; simp [ofL, hk])
        rw [not_or, not_or] at hk
        have k1' : (k == 1) = false := beq_eq_false_iff_ne.mpr hk.1
        have k2' : (k == 2) = false := beq_eq_false_iff_ne.mpr hk.2.1
        have k3' : (k == 3) = false := beq_eq_false_iff_ne.mpr hk.2.2
        clear hk
        go_wp2
        go_ret2
        refine ⟨.slice none 0 0, ?_, ?_, below_alloc HB4.out _⟩
        · rw [ofB, HE3.out]
          rfl
        · rw [ofB, HE3.out]
          exact Kd.R_nil _ _ _ _ _
    · have hI : i = ks.length := by have := HI.out; omega
      subst hI
      have hE := HE.out
      rw [List.drop_length] at hE
      have HE2 := Aside0.mk (show ofL ks (b, false) = some (xs, s) by rw [hE]; simp [ofL])
      clear hE HE
      cases hd : rdDone s with
      | true =>
        have HD := Aside0.mk hd
        clear hd
        go_wp2_with (go_at_call 53; refine (rf_done W.heap.size W.heap.size s _ HRd.out).mono ?_; rintro e w2 ⟨rfl, rfl⟩; simp only [HD.out])
        go_ret2
        refine ⟨u7, ?_, ?_, HB4.out⟩
        · simp only [ofB, HE2.out, HD.out, if_true]
          rfl
        · simp only [ofB, HE2.out, HD.out, if_true]
          exact HO.out
      | false =>
        have HD := Aside0.mk hd
        clear hd
        go_wp2_with (go_at_call 53; refine (rf_done W.heap.size W.heap.size s _ HRd.out).mono ?_; rintro e w2 ⟨rfl, rfl⟩; simp only [HD.out])
        go_ret2
        refine ⟨.slice none 0 0, ?_, ?_, HB4.out⟩
        · simp only [ofB, HE2.out, HD.out]
          rfl
        · simp only [ofB, HE2.out, HD.out]
          exact Kd.R_nil _ _ _ _ _
end Go.Proofs.Ytmcgafgmhddliaa.Sep
