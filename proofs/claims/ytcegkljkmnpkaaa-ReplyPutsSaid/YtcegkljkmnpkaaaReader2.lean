/- The reader of records (package pack's): text, flag, what is left. Conditions: the bounds of the statements. -/
import Derived.Test.YtcegkljkmnpkaaaReader
namespace Go.Proofs.Ytcegkljkmnpkaaa.Sep
open Go.RowKit Go.Proofs.Ytcegkljkmnpkaaa.PCore Go.Proofs.Ytcegkljkmnpkaaa.Plain Go.Proofs.YtcegkljkmnpkaaaW.PrintWords Go.Proofs.YtcegkljkmnpkaaaW.PrintLast Go.Proofs.YtcegkljkmnpkaaaW.PrintMore
theorem Fr.set' {B : Nat} {T : List Nat} {W W1 : World} (h : Fr B T W W1) {g t : Nat} {cs : Array Value} (hb : W1.heap[g]? = some (.cells cs t (0, 0))) (hg : B ≤ g) (ht : t ∈ T) (j : Nat) (u : Value) : Fr B T W (W1.setCell ⟨g, j, none⟩ u) :=
  h.trans ((Fr.refl B T W1).set hb hg ht j u)
/-- All was read, and well. -/
def rdDone (s : RS) : Bool := !s.2 && decide (s.1 = [])
theorem num_bad {s : RS} (most : Int) (h : (rdNum most s).2.2 = true) : (rdNum most s).1 = 0 := by
  unfold rdNum at h ⊢
  by_cases c : s.2 = true
  · rw [if_pos c]
  · rw [if_neg c] at h ⊢
    cases hd : dec 0 s.1 with
    | none => rfl
    | some p =>
      obtain ⟨n, k⟩ := p
      rw [hd] at h
      by_cases c2 : most < n
      · simp only [if_pos c2]
      · simp only [if_neg c2] at h
        cases h
/-- A number's cut from the front, and its text. -/
theorem cut_text (A : Option Addr) (bs : List Int) (c k : Nat) (hk : k ≤ bs.length) (hc : bs.length ≤ c) :
    ∃ A' : Option Addr, (∀ W : World, (Instr.slice 35 (.slice A bs.length c) (some (.int .u64 (k : Int))) none none).run Try.prog W = .ok (.slice A' (bs.drop k).length (c - k)) W) ∧
      (∀ w : World, Kd.C (Kd.int .u8) w A bs.length bs → Kd.C (Kd.int .u8) w A' (bs.drop k).length (bs.drop k)) ∧ (∀ ad, A' = some ad → ∃ ad0, A = some ad0 ∧ ad.block = ad0.block) := by
  obtain ⟨i, hi, _, hsz, _⟩ := info_parts info5
  have hel : Try.prog.elem 35 = 5 := by simp [Program.elem, Try.underlying35]
  have hu : Try.prog.underlying 35 = some (.slice (Try.prog.elem 35)) := by rw [hel]; exact Try.underlying35
  refine ⟨if c = k then A else A.map (·.add k), fun W => ?_, fun w h => ?_, fun ad e => ?_⟩
  · rw [run_slice_l W 35 A bs.length c hu .u64 (k : Int) (Int.natCast_nonneg _) (by omega), hel, List.length_drop]
    simp [sizeOf, typeInfo, hi, hsz, sliced, Result.andThen]
  · have h2 := (show ReadsInt w .u8 A bs.length bs from Kd.reads_of_C (d := 0) h).drop_ (c := c) k hk hc
    rw [List.length_drop]
    exact Kd.C_of_reads (h1 := fun _ => rfl) h2
  · by_cases ck : c = k
    · rw [if_pos ck] at e; exact ⟨ad, e, rfl⟩
    · rw [if_neg ck] at e
      cases A with
      | none => simp at e
      | some a => simp at e; exact ⟨a, rfl, by rw [← e]; exact add_block a k⟩
theorem cut_head (A : Option Addr) (bs : List Int) (c k : Nat) (hk : k ≤ bs.length) (hc : bs.length ≤ c) (W : World) :
    (Instr.slice 35 (.slice A bs.length c) none (some (.int .u64 (k : Int))) none).run Try.prog W = .ok (.slice A k c) W := by
  obtain ⟨i, hi, _, hsz, _⟩ := info_parts info5
  have hel : Try.prog.elem 35 = 5 := by simp [Program.elem, Try.underlying35]
  have hu : Try.prog.underlying 35 = some (.slice (Try.prog.elem 35)) := by rw [hel]; exact Try.underlying35
  have h0 : A.map (fun x => x.add 0) = A := by cases A <;> rfl
  rw [run_slice_h W 35 A bs.length c hu .u64 (k : Int) (Int.natCast_nonneg _) (by omega), hel]
  simp [sizeOf, typeInfo, hi, hsz, sliced, Result.andThen, h0]
theorem head_str (A : Option Addr) (bs : List Int) (c k : Nat) (hk : k ≤ bs.length) (W : World) (h : Kd.C (Kd.int .u8) W A bs.length bs) :
    (convert 35 9 (.slice A k c)).run Try.prog W = .ok (.string (strOfNums (bs.take k))) W := by
  have h2 : Kd.C (Kd.int .u8) W A (bs.take k).length (bs.take k) := by
    have h3 := (show ReadsInt W .u8 A bs.length bs from Kd.reads_of_C (d := 0) h).take_ k hk
    have : (bs.take k).length = k := by rw [List.length_take]; omega
    rw [this]
    exact Kd.C_of_reads (h1 := fun _ => rfl) h3
  have := Kd.C_string (P := Try.prog) (A := A) (c := c) Try.underlying35 Try.underlying5 Try.underlying9 h2
  have e : (bs.take k).length = k := by rw [List.length_take]; omega
  rw [e] at this
  exact this
set_option maxHeartbeats 1000000 in
theorem rd_left (B g : Nat) (s : RS) (W : World) (h : RdAt 127 B g W s) :
    Calls Try.prog 80 #[.pointer (some ⟨g, 0, none⟩)] W fun e W1 => e = .returned (.int .i64 (s.1.length : Int)) ∧ W = W1 := by
  have HO := Aside0.mk (rd_ok B g s W h)
  obtain ⟨l, bad⟩ := s
  obtain ⟨A, c, hb, hg, hc, hC, hA, hF⟩ := h
  have hc0 : W.cell? ⟨g, 0, none⟩ = some (.slice A l.length c) := (blk_cell hb 0).trans rfl
  cases bad with
  | true =>
    have hl : l = [] := hF.2.2 rfl
    subst hl
    clear hb hg hc hC hA hF
    go_enter Try.func80, Try.ntmps80
    go_wp2_with (go_at_call 77; refine HO.out.mono ?_; rintro e w' ⟨rfl, rfl⟩)
    go_ret
    exact ⟨rfl, rfl⟩
  | false =>
    clear hb hg hc hC hA hF
    go_enter Try.func80, Try.ntmps80
    go_wp2_with (go_at_call 77; refine HO.out.mono ?_; rintro e w' ⟨rfl, rfl⟩)
    go_ret
    exact ⟨rfl, rfl⟩
set_option maxHeartbeats 1000000 in
theorem rd_done (B g : Nat) (s : RS) (W : World) (h : RdAt 127 B g W s) :
    Calls Try.prog 46 #[.pointer (some ⟨g, 0, none⟩)] W fun e W1 => e = .returned (.bool (rdDone s)) ∧ W = W1 := by
  have HO := Aside0.mk (rd_ok B g s W h)
  obtain ⟨l, bad⟩ := s
  obtain ⟨A, c, hb, hg, hc, hC, hA, hF⟩ := h
  have hc0 : W.cell? ⟨g, 0, none⟩ = some (.slice A l.length c) := (blk_cell hb 0).trans rfl
  have HE := Aside0.mk (show decide (l = []) = ((l.length : Int) == 0) by cases l <;> simp <;> omega)
  cases bad with
  | true =>
    clear hb hg hc hC hA hF
    go_enter Try.func46, Try.ntmps46
    go_wp2_with (go_at_call 77; refine HO.out.mono ?_; rintro e w' ⟨rfl, rfl⟩)
    go_ret
    exact ⟨rfl, rfl⟩
  | false =>
    clear hb hg hc hC hA hF
    go_enter Try.func46, Try.ntmps46
    go_wp2_with (go_at_call 77; refine HO.out.mono ?_; rintro e w' ⟨rfl, rfl⟩)
    go_ret
    rw [show rdDone (l, false) = ((l.length : Int) == 0) from HE.out]
    exact ⟨rfl, rfl⟩
set_option maxHeartbeats 1000000 in
theorem rd_flag (B g : Nat) (s : RS) (W : World) (h : RdAt 127 B g W s) :
    Calls Try.prog 33 #[.pointer (some ⟨g, 0, none⟩)] W fun e W1 => e = .returned (.bool (rdFlag s).1) ∧ RdAt 127 B g W1 (rdFlag s).2 ∧ Fr B [127] W W1 := by
  have HN := Aside0.mk (rd_num B g s 1 W h)
  clear h
  go_enter Try.func33, Try.ntmps33
  go_wp2_with (go_at_call 32; refine HN.out.mono ?_; rintro e w1 ⟨rfl, hr, hf⟩; have HR := Aside0.mk hr; have HF := Aside0.mk hf; clear hr hf)
  go_ret
  exact ⟨rfl, HR.out, HF.out⟩
/-- A new reader. -/
theorem rd_read (A : Option Addr) (c : Nat) (bs : List Int) (W : World) (hC : Kd.C (Kd.int .u8) W A bs.length bs) (hF : Fine (bs, false)) :
    Calls Try.prog 31 #[.slice A bs.length c] W fun e W1 => ∃ g, e = .returned (.pointer (some ⟨g, 0, none⟩)) ∧ (∀ B, B ≤ W.heap.size → RdAt 127 B g W1 (bs, false)) ∧ Below W.heap.size W W1 := by
  have HP := Aside0.mk (clone_calls A c bs W hC (by have : bs.length ≤ 1000000 := hF.2.1; omega))
  have HF := Aside0.mk hF
  clear hC hF
  go_enter Try.func31, Try.ntmps31
  go_wp2_with (go_at_call 76; refine HP.out.mono ?_; rintro e w1 ⟨v1, rfl, hr1, hb1⟩; obtain ⟨A1, c1, hv1, hl1, hC1⟩ := Kd.R_reads hr1; subst hv1; have HT1 := Aside0.mk (show ∀ ad, A1 = some ad → ∃ cs, w1.heap[ad.block]? = some (.cells cs 5 (0, 0)) from fun ad e => Kd.R_typed hr1 ad.block (by rw [e]; rfl)); have HL1 := Aside0.mk hl1; have HC1 := Aside0.mk hC1; have HB1 := Aside0.mk hb1; clear hr1 hb1 hC1 hl1)
  go_ret
  refine ⟨_, rfl, fun B hB => ⟨A1, c1, blk_new _ _, Nat.le_trans hB HB1.out.size, HL1.out, Kd.C_below HC1.out (below_alloc (Below.refl _ _) _), fun _ ad e => .inr ?_, HF.out⟩, below_alloc HB1.out _⟩
  obtain ⟨cs, hcs⟩ := HT1.out ad e
  exact (Fr.of_below (B := 0) (T := []) (below_alloc (Below.refl _ _) _)).ty ⟨cs, _, hcs⟩ (by simp)
set_option maxHeartbeats 2000000 in
set_option maxRecDepth 100000 in
theorem rd_text (B g : Nat) (s : RS) (most : Int) (W : World) (h : RdAt 127 B g W s) (hm : -9223372036854775808 ≤ most ∧ most < 9223372036854775808) :
    Calls Try.prog 34 #[.pointer (some ⟨g, 0, none⟩), .int .i64 most] W fun e W1 => e = .returned (.string (rdText most s).1) ∧ RdAt 127 B g W1 (rdText most s).2 ∧ Fr B [127] W W1 := by
  by_cases hneg : most < 0
  · have HE := Aside0.mk (show rdText most s = (⟨#[]⟩, failed) by rw [rdText, if_pos hneg])
    have HF := Aside0.mk (rd_fail B g s W h)
    clear h
    go_enter Try.func34, Try.ntmps34
    go_wp2_with (go_at_call 79; refine HF.out.mono ?_; rintro e w1 ⟨rfl, hr, hf⟩; have HR := Aside0.mk hr; have HF1 := Aside0.mk hf; clear hr hf)
    go_ret
    rw [HE.out]
    exact ⟨rfl, HR.out, HF1.out⟩
  · have hwm : IntKind.u64.wrap most = most := by rw [IntKind.wrap_u64]; omega
    have hN := rd_num B g s most W h
    have hfine := fine_num h.fine most
    have hnb := num_bad (s := s) most
    have hin := num_in h.fine most (by omega)
    have hE : rdText most s = (if (rdNum most s).2.2 = true then (⟨#[]⟩, (rdNum most s).2) else if ((rdNum most s).2.1.length : Int) < (rdNum most s).1 then (⟨#[]⟩, failed) else (strOfNums ((rdNum most s).2.1.take (rdNum most s).1.toNat), ((rdNum most s).2.1.drop (rdNum most s).1.toNat, false))) := by rw [rdText, if_neg hneg]
    generalize rdNum most s = p at hN hfine hnb hin hE
    obtain ⟨n, l, bad⟩ := p
    obtain ⟨m, rfl⟩ : ∃ m : Nat, n = (m : Int) := ⟨n.toNat, (Int.toNat_of_nonneg hin.1).symm⟩
    clear h
    cases bad with
    | true =>
      have hn : m = 0 := by have := hnb rfl; simp only at this; omega
      subst hn
      have hl : l = [] := hfine.2.2 rfl
      subst hl
      have HE := Aside0.mk (hE.trans (if_pos rfl))
      rw [← hwm] at hN
      have HN := Aside0.mk hN
      clear hN hfine hnb hin hE hwm hm
      go_enter Try.func34, Try.ntmps34
      go_wp2_with (first | (go_at_call 32; refine HN.out.mono ?_; rintro e w1 ⟨rfl, hr, hf⟩; have HR := Aside0.mk hr; have HF1 := Aside0.mk hf; clear hr hf) | (go_at_call 80; refine (rd_left B g _ _ HR.out).mono ?_; rintro e w' ⟨rfl, rfl⟩) | (go_at_call 77; refine (rd_ok B g _ _ HR.out).mono ?_; rintro e w' ⟨rfl, rfl⟩))
      go_ret
      rw [HE.out]
      exact ⟨rfl, HR.out, HF1.out⟩
    | false =>
      have hl1 : l.length ≤ 1000000 := hfine.2.1
      have hwl : IntKind.u64.wrap (l.length : Int) = (l.length : Int) := by rw [IntKind.wrap_u64]; omega
      by_cases hlong : (l.length : Int) < (m : Int)
      · have HE := Aside0.mk (hE.trans ((if_neg (by simp)).trans (if_pos hlong)))
        rw [← hwm] at hN
        have HN := Aside0.mk hN
        clear hN hfine hnb hin hE hwm hm hl1
        go_enter Try.func34, Try.ntmps34
        go_wp2_with (first | (go_at_call 32; refine HN.out.mono ?_; rintro e w1 ⟨rfl, hr, hf⟩; have HR := Aside0.mk hr; have HF1 := Aside0.mk hf; clear hr hf) | (go_at_call 80; refine (rd_left B g _ _ HR.out).mono ?_; rintro e w' ⟨rfl, rfl⟩) | (go_at_call 79; refine (rd_fail B g _ _ HR.out).mono ?_; rintro e w2 ⟨rfl, hr2, hf2⟩; have HR2 := Aside0.mk hr2; have HF2 := Aside0.mk hf2; clear hr2 hf2) | (go_at_call 77; refine (rd_ok B g _ _ HR2.out).mono ?_; rintro e w' ⟨rfl, rfl⟩))
        go_ret
        rw [HE.out]
        exact ⟨rfl, HR2.out, HF1.out.trans HF2.out⟩
      · have HE := Aside0.mk (hE.trans ((if_neg (by simp)).trans (if_neg hlong)))
        rw [← hwm] at hN
        have HN := Aside0.mk hN
        have hHE : rdText most s = (strOfNums (l.take m), (l.drop m, false)) := HE.out
        clear HE
        have HE := Aside0.mk hHE
        have HD := Aside0.mk (show Fine (l.drop m, false) from fine_drop hfine m)
        have hDl : (l.drop m).length ≤ l.length - m := by rw [List.length_drop]; omega
        have hdcut := fun (A : Option Addr) (c : Nat) (hc : l.length ≤ c) => cut_text A l c m (by omega) hc
        generalize l.drop m = d at HE hHE HD hDl hdcut
        have HDL := Aside0.mk hDl
        have HDC := Aside0.mk hdcut
        clear hN hfine hnb hin hE hwm hm hl1 hHE hDl hdcut
        go_enter Try.func34, Try.ntmps34
        go_wp2_with (first | (go_at_call 32; refine HN.out.mono ?_; rintro e w1 ⟨rfl, hr, hf⟩; have HR := Aside0.mk hr; have HF1 := Aside0.mk hf; clear hr hf; obtain ⟨A, c, hb, hg, hc, hC, hA, hF⟩ := HR.out; have hc0 : w1.cell? ⟨g, 0, none⟩ = some (.slice A l.length c) := (blk_cell hb 0).trans rfl; have hf0 := blk_frozen hb 0; have HK1 := Aside0.mk hb; have HG := Aside0.mk hg; have hc' : l.length ≤ c := hc; obtain ⟨A', hcut, hCut, hA'⟩ := HDC.out A c hc; have hhead := fun W2 => cut_head A l c m (by omega) hc W2; have hstr := head_str A l c m (by omega) w1 hC; have HCut := Aside0.mk hCut; have HA' := Aside0.mk hA'; have HC := Aside0.mk hC; have HA := Aside0.mk hA; have HCl := Aside0.mk (show d.length ≤ c - m by have := HDL.out; omega); clear hb hg hc hc' hC hA hF hCut hA') | (go_at_call 80; refine (rd_left B g _ _ HR.out).mono ?_; rintro e w' ⟨rfl, rfl⟩) | (go_at_call 77; refine (rd_ok B g _ _ HR.out).mono ?_; rintro e w' ⟨rfl, rfl⟩))
        go_ret
        rw [HE.out]
        refine ⟨rfl, RdAt.put1 (A' := A') HK1.out (by decide) HG.out HCl.out (HCut.out _ HC.out) (fun hp ad e => ?_) HD.out, HF1.out.set' HK1.out HG.out (by decide) 0 _⟩
        obtain ⟨ad0, e0, eb⟩ := HA'.out ad e
        rw [eb]
        exact HA.out (by have := HDL.out; omega) ad0 e0
end Go.Proofs.Ytcegkljkmnpkaaa.Sep
