/- pack.Of: what it makes of bytes and kinds, whole. Conditions: the bounds of the statements. -/
import Derived.Test.YtmcgafgmhddliabPackOf
namespace Go.Proofs.Ytmcgafgmhddliab.Sep
open Go.RowKit Go.Proofs.Ytmcgafgmhddliab.PCore Go.Proofs.Ytmcgafgmhddliab.Plain Go.Proofs.YtmcgafgmhddliabW.PrintWords Go.Proofs.YtmcgafgmhddliabW.PrintLast Go.Proofs.YtmcgafgmhddliabW.PrintMore
open Go.Proofs.Ytmcgafgmhddliab.PDat (S28 k28 z28 rd_T28 at_T28 k28_mkM)
/-- Fields of kinds; none: there is a kind that is none. -/
def ofL : List Int → RS → Option (List S28 × RS)
  | [], s => some ([], s)
  | k :: ks, s => if k = 1 ∨ k = 2 ∨ k = 3 then (ofL ks (rdF k s).2).map (fun p => ((rdF k s).1 :: p.1, p.2)) else none
/-- What pack.Of tells. -/
def ofB (ks : List Int) (b : List Int) : List S28 × Int :=
  match ofL ks (b, false) with
  | none => ([], 20)
  | some p => if rdDone p.2 = true then (p.1, 0) else ([], 20)
theorem drop_rd (ks : List Int) (i : Nat) (h : i < ks.length) : ks.drop i = rd ks (i : Int) :: ks.drop (i + 1) := by
  rw [List.drop_eq_getElem_cons h]
  simp [rd, h]
theorem nil_nil (W : World) : (binOp .eql 38 .nilFunc .nilFunc).run Try.prog W = .ok (.bool true) W := by rfl
theorem func_nil (f : FuncId) (a b : Array Value) (W : World) : (binOp .eql 38 (.func (.func f) a b) .nilFunc).run Try.prog W = .ok (.bool false) W := by rfl
theorem ofL_step {ks rest b : List Int} {k : Int} {s : RS} {xs : List S28} (hk : k = 1 ∨ k = 2 ∨ k = 3) (h : ofL ks (b, false) = (ofL (k :: rest) s).map (fun p => (xs ++ p.1, p.2))) : ofL ks (b, false) = (ofL rest (rdF k s).2).map (fun p => ((xs ++ [(rdF k s).1]) ++ p.1, p.2)) := by
  rw [h]
  simp only [ofL, if_pos hk, Option.map_map]
  congr 1
  funext p
  simp
theorem k_E {T : List Nat} (h : 28 ∉ T) : ∀ q, q ∈ 28 :: (k28).E → q ∉ T := fun q hq => by
  have : q = 28 := by simpa [k28, Kd.iso, Kd.pair, Kd.int, Kd.scalar, Kd.string, Kd.bool] using hq
  rw [this]
  exact h
theorem by1 (a : Option Addr) (W : World) : Calls Try.prog 11 #[.pointer a, .int .i64 1] W fun e W1 => e = .returned (.func (.func 18) #[.pointer a] #[]) ∧ W = W1 := rd_by a 1 W
theorem by2 (a : Option Addr) (W : World) : Calls Try.prog 11 #[.pointer a, .int .i64 2] W fun e W1 => e = .returned (.func (.func 19) #[.pointer a] #[]) ∧ W = W1 := rd_by a 2 W
theorem by3 (a : Option Addr) (W : World) : Calls Try.prog 11 #[.pointer a, .int .i64 3] W fun e W1 => e = .returned (.func (.func 20) #[.pointer a] #[]) ∧ W = W1 := rd_by a 3 W
theorem by0 (a : Option Addr) (k : Int) (h : ¬ (k = 1 ∨ k = 2 ∨ k = 3)) (W : World) : Calls Try.prog 11 #[.pointer a, .int .i64 k] W fun e W1 => e = .returned .nilFunc ∧ W = W1 := by
  have := rd_by a k W
  have e : byV k (.pointer a) = .nilFunc := by
    rw [not_or, not_or] at h
    simp [byV, h.1, h.2.1, h.2.2]
  rw [e] at this
  exact this
theorem at1 (B g : Nat) (s : RS) (W : World) (h : RdAt 49 B g W s) :
    Calls Try.prog 18 #[.pointer (some ⟨g, 0, none⟩)] W fun e W1 => e = .returned (.agg #[.int .i64 (rdF 1 s).1.f0, .int .u64 (rdF 1 s).1.f1, .string (rdF 1 s).1.f2, .bool (rdF 1 s).1.f3]) ∧ RdAt 49 B g W1 (rdF 1 s).2 ∧ Fr B [49] W W1 := rd_number B g s W h
theorem at2 (B g : Nat) (s : RS) (W : World) (h : RdAt 49 B g W s) :
    Calls Try.prog 19 #[.pointer (some ⟨g, 0, none⟩)] W fun e W1 => e = .returned (.agg #[.int .i64 (rdF 2 s).1.f0, .int .u64 (rdF 2 s).1.f1, .string (rdF 2 s).1.f2, .bool (rdF 2 s).1.f3]) ∧ RdAt 49 B g W1 (rdF 2 s).2 ∧ Fr B [49] W W1 := rd_textF B g s W h
theorem at3 (B g : Nat) (s : RS) (W : World) (h : RdAt 49 B g W s) :
    Calls Try.prog 20 #[.pointer (some ⟨g, 0, none⟩)] W fun e W1 => e = .returned (.agg #[.int .i64 (rdF 3 s).1.f0, .int .u64 (rdF 3 s).1.f1, .string (rdF 3 s).1.f2, .bool (rdF 3 s).1.f3]) ∧ RdAt 49 B g W1 (rdF 3 s).2 ∧ Fr B [49] W W1 := rd_flagF B g s W h
set_option maxHeartbeats 4000000 in
set_option maxRecDepth 100000 in
theorem pack_of (A0 : Option Addr) (c0 : Nat) (b : List Int) (A1 : Option Addr) (c1 : Nat) (ks : List Int) (W : World) (hC0 : Kd.C (Kd.int .u8) W A0 b.length b) (hF : Fine (b, false)) (hC1 : Kd.C (Kd.int .i64) W A1 ks.length ks) (hn : ks.length ≤ 1000) :
    Calls Try.prog 7 #[.slice A0 b.length c0, .slice A1 ks.length c1] W fun e W1 => ∃ v, e = .returned (.tuple #[v, .int .i64 (ofB ks b).2]) ∧ Kd.R k28 28 W1 W.heap.size (fun _ => True) v (ofB ks b).1 ∧ Below W.heap.size W W1 := by
  have HP := Aside0.mk (rd_read A0 c0 b W hC0 hF)
  have HC := Aside0.mk hC1
  have HN := Aside0.mk hn
  clear hC0 hF hC1 hn
  have huF := Try.underlying28
  have hq1 := nil_nil
  have hq2 := func_nil
  go_enter Try.func7, Try.ntmps7
  go_wp2_with (go_at_call 10; refine HP.out.mono ?_; rintro e w1 ⟨g, rfl, hr, hb⟩; have HR := Aside0.mk (hr W.heap.size (Nat.le_refl _)); have HB := Aside0.mk hb; clear hr hb)
  go_loopg [7, 15] ks.length (fun kq v7 v15 w' => ∃ (i : Nat) (s : RS) (xs : List S28), v15 = .int .i64 i ∧ Aside0 (i ≤ ks.length ∧ kq = ks.length - i ∧ xs.length = i) ∧ Aside0 (ofL ks (b, false) = (ofL (ks.drop i) s).map (fun p => (xs ++ p.1, p.2))) ∧ Aside0 (RdAt 49 W.heap.size g w' s) ∧ Aside0 (Kd.R k28 28 w' W.heap.size (fun _ => True) v7 xs) ∧ Aside0 (Below W.heap.size W w'))
  case atStart => exact ⟨0, (b, false), [], rfl, ⟨by omega, by omega, rfl⟩, ⟨by cases h : ofL ks (b, false) <;> simp [h]⟩, ⟨HR.out⟩, ⟨Kd.R_nil _ _ _ _ _⟩, ⟨HB.out⟩⟩
  case round =>
    obtain ⟨i, s, xs, rfl, HI, HE, HRd, HO, HB4⟩ := hrel
    by_cases hlt : i < ks.length
    · obtain ⟨ad, rfl, h0⟩ := (show ReadsInt wr .i64 A1 ks.length ks from Kd.reads_of_C (d := 0) (Kd.C_below HC.out HB4.out)).at_ (i : Int) (by omega) (by omega)
      simp only [Int.toNat_natCast] at h0
      have hD := drop_rd ks i hlt
      generalize rd ks (i : Int) = k at h0 hD
      have hlt' : (i : Int) < (ks.length : Int) := by omega
      have HWI := Aside0.mk (show wrap64 ((i : Int) + 1) = ((i + 1 : Nat) : Int) by have := HN.out; unfold wrap64; omega)
      have hE := HE.out
      rw [hD] at hE
      have HE2 := Aside0.mk hE
      clear hD hE HE
      by_cases hk : k = 1 ∨ k = 2 ∨ k = 3
      · rcases hk with hk1 | hk1 | hk1
        · subst hk1
          go_wp2_with (first | (go_at_call 11; refine (by1 _ _).mono ?_; rintro e w9 ⟨rfl, rfl⟩) | (go_at_call 18; refine (at1 W.heap.size g s _ HRd.out).mono ?_; rintro e w2 ⟨rfl, hr, hf⟩; have HR2 := Aside0.mk hr; have HO2 := Aside0.mk (hf.R HO.out (k_E (by decide))); have HB5 := Aside0.mk (HB4.out.trans (hf.below HB4.out.size)); clear hr hf) | (at_builtin; refine Kd.R_append k28 (w0 := W) W.heap.size rfl (.tmp 24) (.tmp 27) 22 28 (.agg #[.int .i64 0, .int .u64 0, .string ⟨#[]⟩, .bool false]) 40 rfl Try.underlying22 (by kernel_rfl) rfl (by decide) (by omega) u7 xs (rdF 1 s).1 [.int .i64 (rdF 1 s).1.f0, .int .u64 (rdF 1 s).1.f1, .string (rdF 1 s).1.f2, .bool (rdF 1 s).1.f3] (fun _ => True) (fun _ => False) rfl rfl ?aP (fun _ hk => hk.elim) ?aF ?aO ?aB ?aS ?aL ?_; (case aP => exact k28_mkM _ _ _ _); (case aF => exact fun _ _ => trivial); (case aO => exact HO2.out); (case aB => exact HB5.out); (case aS => exact HB5.out.size); (case aL => have := HI.out; have := HN.out; omega); intro v3 w3 ho hb hg hat; have HO3 := Aside0.mk ho; have HF3 := Aside0.mk (show Fr W.heap.size [28] w2 w3 by obtain ⟨inner, h⟩ := Kd.R_own HO2.out; exact Fr.of_grown h (Nat.le_refl _) hg (by simp)); have HB6 := Aside0.mk hb; clear ho hb hg hat))
          go_roundg (ks.length - (i + 1))
          case measure => have := HI.out; omega
          case rel => exact ⟨i + 1, (rdF 1 s).2, xs ++ [(rdF 1 s).1], by rw [HWI.out], ⟨by omega, rfl, by have := HI.out; simp; omega⟩, ⟨ofL_step (by decide) HE2.out⟩, ⟨HR2.out.fr HF3.out (by decide)⟩, ⟨HO3.out⟩, ⟨HB6.out⟩⟩
        · subst hk1
          go_wp2_with (first | (go_at_call 11; refine (by2 _ _).mono ?_; rintro e w9 ⟨rfl, rfl⟩) | (go_at_call 19; refine (at2 W.heap.size g s _ HRd.out).mono ?_; rintro e w2 ⟨rfl, hr, hf⟩; have HR2 := Aside0.mk hr; have HO2 := Aside0.mk (hf.R HO.out (k_E (by decide))); have HB5 := Aside0.mk (HB4.out.trans (hf.below HB4.out.size)); clear hr hf) | (at_builtin; refine Kd.R_append k28 (w0 := W) W.heap.size rfl (.tmp 24) (.tmp 27) 22 28 (.agg #[.int .i64 0, .int .u64 0, .string ⟨#[]⟩, .bool false]) 40 rfl Try.underlying22 (by kernel_rfl) rfl (by decide) (by omega) u7 xs (rdF 2 s).1 [.int .i64 (rdF 2 s).1.f0, .int .u64 (rdF 2 s).1.f1, .string (rdF 2 s).1.f2, .bool (rdF 2 s).1.f3] (fun _ => True) (fun _ => False) rfl rfl ?aP (fun _ hk => hk.elim) ?aF ?aO ?aB ?aS ?aL ?_; (case aP => exact k28_mkM _ _ _ _); (case aF => exact fun _ _ => trivial); (case aO => exact HO2.out); (case aB => exact HB5.out); (case aS => exact HB5.out.size); (case aL => have := HI.out; have := HN.out; omega); intro v3 w3 ho hb hg hat; have HO3 := Aside0.mk ho; have HF3 := Aside0.mk (show Fr W.heap.size [28] w2 w3 by obtain ⟨inner, h⟩ := Kd.R_own HO2.out; exact Fr.of_grown h (Nat.le_refl _) hg (by simp)); have HB6 := Aside0.mk hb; clear ho hb hg hat))
          go_roundg (ks.length - (i + 1))
          case measure => have := HI.out; omega
          case rel => exact ⟨i + 1, (rdF 2 s).2, xs ++ [(rdF 2 s).1], by rw [HWI.out], ⟨by omega, rfl, by have := HI.out; simp; omega⟩, ⟨ofL_step (by decide) HE2.out⟩, ⟨HR2.out.fr HF3.out (by decide)⟩, ⟨HO3.out⟩, ⟨HB6.out⟩⟩
        · subst hk1
          go_wp2_with (first | (go_at_call 11; refine (by3 _ _).mono ?_; rintro e w9 ⟨rfl, rfl⟩) | (go_at_call 20; refine (at3 W.heap.size g s _ HRd.out).mono ?_; rintro e w2 ⟨rfl, hr, hf⟩; have HR2 := Aside0.mk hr; have HO2 := Aside0.mk (hf.R HO.out (k_E (by decide))); have HB5 := Aside0.mk (HB4.out.trans (hf.below HB4.out.size)); clear hr hf) | (at_builtin; refine Kd.R_append k28 (w0 := W) W.heap.size rfl (.tmp 24) (.tmp 27) 22 28 (.agg #[.int .i64 0, .int .u64 0, .string ⟨#[]⟩, .bool false]) 40 rfl Try.underlying22 (by kernel_rfl) rfl (by decide) (by omega) u7 xs (rdF 3 s).1 [.int .i64 (rdF 3 s).1.f0, .int .u64 (rdF 3 s).1.f1, .string (rdF 3 s).1.f2, .bool (rdF 3 s).1.f3] (fun _ => True) (fun _ => False) rfl rfl ?aP (fun _ hk => hk.elim) ?aF ?aO ?aB ?aS ?aL ?_; (case aP => exact k28_mkM _ _ _ _); (case aF => exact fun _ _ => trivial); (case aO => exact HO2.out); (case aB => exact HB5.out); (case aS => exact HB5.out.size); (case aL => have := HI.out; have := HN.out; omega); intro v3 w3 ho hb hg hat; have HO3 := Aside0.mk ho; have HF3 := Aside0.mk (show Fr W.heap.size [28] w2 w3 by obtain ⟨inner, h⟩ := Kd.R_own HO2.out; exact Fr.of_grown h (Nat.le_refl _) hg (by simp)); have HB6 := Aside0.mk hb; clear ho hb hg hat))
          go_roundg (ks.length - (i + 1))
          case measure => have := HI.out; omega
          case rel => exact ⟨i + 1, (rdF 3 s).2, xs ++ [(rdF 3 s).1], by rw [HWI.out], ⟨by omega, rfl, by have := HI.out; simp; omega⟩, ⟨ofL_step (by decide) HE2.out⟩, ⟨HR2.out.fr HF3.out (by decide)⟩, ⟨HO3.out⟩, ⟨HB6.out⟩⟩
      · have HE3 := Aside0.mk (show ofL ks (b, false) = none by rw [HE2.out]; simp [ofL, hk])
        have HK := Aside0.mk hk
        clear hk
        go_wp2_with (go_at_call 11; refine (by0 _ _ HK.out _).mono ?_; rintro e w2 ⟨rfl, rfl⟩)
        go_ret2
        refine ⟨.slice none 0 0, ?_, ?_, HB4.out⟩
        · rw [ofB, HE3.out]
          rfl
        · rw [ofB, HE3.out]
          exact Kd.R_nil _ _ _ _ _
    · have hI : i = ks.length := by have := HI.out; omega
      subst hI
      have hE := HE.out
      rw [List.drop_length] at hE
      have HE2 := Aside0.mk (show ofL ks (b, false) = some (xs, s) by rw [hE]; simp [ofL])
      clear hE HE
      cases hd : rdDone s with
      | true =>
        have HD := Aside0.mk hd
        clear hd
        go_wp2_with (go_at_call 12; refine (rd_done W.heap.size g s _ HRd.out).mono ?_; rintro e w2 ⟨rfl, rfl⟩; simp only [HD.out])
        go_ret2
        refine ⟨u7, ?_, ?_, HB4.out⟩
        · simp only [ofB, HE2.out, HD.out, if_true]
          rfl
        · simp only [ofB, HE2.out, HD.out, if_true]
          exact HO.out
      | false =>
        have HD := Aside0.mk hd
        clear hd
        go_wp2_with (go_at_call 12; refine (rd_done W.heap.size g s _ HRd.out).mono ?_; rintro e w2 ⟨rfl, rfl⟩; simp only [HD.out])
        go_ret2
        refine ⟨.slice none 0 0, ?_, ?_, HB4.out⟩
        · simp only [ofB, HE2.out, HD.out]
          rfl
        · simp only [ofB, HE2.out, HD.out]
          exact Kd.R_nil _ _ _ _ _
end Go.Proofs.Ytmcgafgmhddliab.Sep
