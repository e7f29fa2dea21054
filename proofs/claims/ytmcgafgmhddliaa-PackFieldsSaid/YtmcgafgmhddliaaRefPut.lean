/- The reference's Put: what it makes of fields. Conditions: the bounds of the statements. -/
import Derived.Test.YtmcgafgmhddliaaPackPut
namespace Go.Proofs.Ytmcgafgmhddliaa.Sep
open Go.RowKit Go.Proofs.Ytmcgafgmhddliaa.PCore Go.Proofs.Ytmcgafgmhddliaa.Plain Go.Proofs.YtmcgafgmhddliaaW.PrintWords Go.Proofs.YtmcgafgmhddliaaW.PrintLast Go.Proofs.YtmcgafgmhddliaaW.PrintMore
open Go.Proofs.Ytmcgafgmhddliaa.PDat (S70 k70 z70 rd_T70 at_T70)
theorem rn_num (w0 w : World) (v : Value) (bs : List Int) (n : Int) (hB : Below w0.heap.size w0 w) (hr : Kd.R (Kd.int .u8) 5 w w0.heap.size (fun _ => True) v bs) (hn : 0 ≤ n ∧ n < 18446744073709551616) (hl : bs.length + 10 ≤ 140737488355328) :
    Calls Try.prog 32 #[v, .int .u64 n] w fun e w' => ∃ v1, e = .returned v1 ∧ Kd.R (Kd.int .u8) 5 w' w0.heap.size (fun _ => True) v1 (bs ++ enc n) ∧ Below w0.heap.size w0 w' := by
  obtain ⟨k, h⟩ := Ev.rounds (num_form bs hn.1 hn.2 hl)
  exact (apographref01_Num.calls k (fun _ => True) v bs n _ w0 w hB hr h).mono fun e w' ⟨v1, he, hr1, hb, _⟩ => ⟨v1, he, Kd.R_mono hr1 (fun _ _ => trivial), hb⟩
theorem rn_flag (w0 w : World) (v : Value) (bs : List Int) (b : Bool) (hB : Below w0.heap.size w0 w) (hr : Kd.R (Kd.int .u8) 5 w w0.heap.size (fun _ => True) v bs) (hl : bs.length + 10 ≤ 140737488355328) :
    Calls Try.prog 65 #[v, .bool b] w fun e w' => ∃ v1, e = .returned v1 ∧ Kd.R (Kd.int .u8) 5 w' w0.heap.size (fun _ => True) v1 (bs ++ encB b) ∧ Below w0.heap.size w0 w' := by
  have h : apographref01_Flag.f bs b = some (bs ++ encB b) := by
    cases b <;> simp [apographref01_Flag.f, encB] <;> omega
  exact (apographref01_Flag.calls (fun _ => True) v bs b _ w0 w hB hr h).mono fun e w' ⟨v1, he, hr1, hb, _⟩ => ⟨v1, he, Kd.R_mono hr1 (fun _ _ => trivial), hb⟩
set_option maxHeartbeats 1000000 in
set_option maxRecDepth 100000 in
theorem rn_text (w0 w : World) (v : Value) (bs : List Int) (s : ByteArray) (hB : Below w0.heap.size w0 w) (hr : Kd.R (Kd.int .u8) 5 w w0.heap.size (fun _ => True) v bs) (hl : bs.length + s.size + 20 < 140737488355328) :
    Calls Try.prog 64 #[v, .string s] w fun e w' => ∃ v1, e = .returned v1 ∧ Kd.R (Kd.int .u8) 5 w' w0.heap.size (fun _ => True) v1 (bs ++ encT s) ∧ Below w0.heap.size w0 w' := by
  have HL := Aside0.mk (enc_len_u64 (n := (s.size : Int)) (by omega) (by omega))
  have HL2 := Aside0.mk hl
  have hwl : IntKind.u64.wrap (s.size : Int) = (s.size : Int) := by rw [IntKind.wrap_u64]; omega
  have HN := Aside0.mk (rn_num w0 w v bs (s.size : Int) hB hr ⟨by omega, by omega⟩ (by omega))
  clear hB hr hl
  go_enter Try.func64, Try.ntmps64
  go_wp2_with (first | (go_at_call 32; refine HN.out.mono ?_; rintro e w1 ⟨v1, rfl, hr1, hb1⟩; obtain ⟨A1, n1, c1, hv1⟩ := R_slice' hr1; subst hv1; have HR1 := Aside0.mk hr1; have HB1 := Aside0.mk hb1; clear hr1 hb1) | (at_builtin; refine print_append_str (w0 := w0) w0.heap.size rfl (.tmp 9) (.tmp 10) 34 9 5 rfl Try.underlying34 Try.underlying9 info5 (.slice A1 n1 c1) (bs ++ enc s.size) s rfl rfl ?aO ?aB ?aS ?aL ?_; (case aO => exact Kd.own_of_R HR1.out); (case aB => exact HB1.out); (case aS => exact HB1.out.size); (case aL => have := HL.out; have := HL2.out; rw [List.length_append]; omega); intro v2 w2 ho2 hb2 hg2; have HO2 := Aside0.mk ho2; have HB2 := Aside0.mk hb2; clear ho2 hb2 hg2))
  go_ret
  refine ⟨_, rfl, ?_, HB2.out⟩
  have h := Kd.R_of_own (h1 := fun _ => rfl) (ok := fun _ => True) HO2.out (fun _ _ => trivial)
  rw [List.append_assoc] at h
  exact h
set_option maxHeartbeats 4000000 in
set_option maxRecDepth 100000 in
theorem ref_put (A : Option Addr) (c : Nat) (l : List S70) (W : World) (hC : Kd.C k70 W A l.length l) (hok : OkF l) (hn : l.length ≤ 1000) :
    Calls Try.prog 57 #[.slice A l.length c] W fun e W1 => ∃ v, e = .returned v ∧ Kd.R (Kd.int .u8) 5 W1 W.heap.size (fun _ => True) v (encFs l) ∧ Below W.heap.size W W1 := by
  have HC := Aside0.mk hC
  have HOK := Aside0.mk hok
  have HN := Aside0.mk hn
  clear hC hok hn
  have huF := Try.underlying70
  go_enter Try.func57, Try.ntmps57
  go_wp2
  go_loopg [3, 8] l.length (fun kq v3 v8 w' => ∃ i : Nat, v8 = .int .i64 i ∧ Aside0 (i ≤ l.length ∧ kq = l.length - i) ∧ Aside0 (Kd.R (Kd.int .u8) 5 w' W.heap.size (fun _ => True) v3 (encFs (l.take i))) ∧ Aside0 (Below W.heap.size W w'))
  case atStart => exact ⟨0, rfl, ⟨by omega, by omega⟩, ⟨Kd.R_nil _ _ _ _ _⟩, ⟨Below.refl _ _⟩⟩
  case round =>
    obtain ⟨i, rfl, HI, HO, HB⟩ := hrel
    by_cases hlt : i < l.length
    · obtain ⟨ad, rfl, h0, h1, h2, h3⟩ := at_T70 (Kd.C_below HC.out HB.out) (i : Int) (by omega) (by omega)
      have HE := Aside0.mk (encFs_take i hlt)
      have HX := Aside0.mk (HOK.out.at i hlt)
      have HL := Aside0.mk (show (encFs (l.take i)).length ≤ 1010 * 1000 by have := encFs_len (HOK.out.take i); have := HN.out; simp only [List.length_take] at *; omega)
      generalize rd_T70 l (i : Int) = x at h0 h1 h2 h3 HE HX
      obtain ⟨f0, f1, f2, f3⟩ := x
      simp only [Int.toNat_natCast] at h0 h1 h2 h3
      have hlt' : (i : Int) < (l.length : Int) := by omega
      have HWI := Aside0.mk (show wrap64 ((i : Int) + 1) = ((i + 1 : Nat) : Int) by have := HN.out; unfold wrap64; omega)
      have HX2 := Aside0.mk (show 0 ≤ f1 ∧ f1 < 18446744073709551616 from HX.out.1)
      have HX3 := Aside0.mk (show f2.size ≤ 1000 from HX.out.2)
      clear HX
      by_cases k1 : f0 = 1
      · subst k1
        go_wp2_with (go_at_call 32; refine (rn_num W _ _ _ f1 (below_alloc HB.out _) (Kd.R_alloc HO.out _) HX2.out (by have := HL.out; have := HX3.out; omega)).mono ?_; rintro e w1 ⟨v1, rfl, hr1, hb1⟩; have HO1 := Aside0.mk hr1; have HB1 := Aside0.mk hb1; clear hr1 hb1)
        go_roundg (l.length - (i + 1))
        case measure => have := HI.out; omega
        case rel =>
          refine ⟨i + 1, by rw [HWI.out], ⟨by omega, rfl⟩, ⟨?_⟩, ⟨HB1.out⟩⟩
          rw [HE.out]
          exact HO1.out
      · have k1' : (f0 == 1) = false := beq_eq_false_iff_ne.mpr k1
        by_cases k2 : f0 = 2
        · subst k2
          go_wp2_with (go_at_call 64; refine (rn_text W _ _ _ f2 (below_alloc HB.out _) (Kd.R_alloc HO.out _) (by have := HL.out; have := HX3.out; omega)).mono ?_; rintro e w1 ⟨v1, rfl, hr1, hb1⟩; have HO1 := Aside0.mk hr1; have HB1 := Aside0.mk hb1; clear hr1 hb1)
          go_roundg (l.length - (i + 1))
          case measure => have := HI.out; omega
          case rel =>
            refine ⟨i + 1, by rw [HWI.out], ⟨by omega, rfl⟩, ⟨?_⟩, ⟨HB1.out⟩⟩
            rw [HE.out]
            exact HO1.out
        · have k2' : (f0 == 2) = false := beq_eq_false_iff_ne.mpr k2
          by_cases k3 : f0 = 3
          · subst k3
            go_wp2_with (go_at_call 65; refine (rn_flag W _ _ _ f3 (below_alloc HB.out _) (Kd.R_alloc HO.out _) (by have := HL.out; have := HX3.out; omega)).mono ?_; rintro e w1 ⟨v1, rfl, hr1, hb1⟩; have HO1 := Aside0.mk hr1; have HB1 := Aside0.mk hb1; clear hr1 hb1)
            go_roundg (l.length - (i + 1))
            case measure => have := HI.out; omega
            case rel =>
              refine ⟨i + 1, by rw [HWI.out], ⟨by omega, rfl⟩, ⟨?_⟩, ⟨HB1.out⟩⟩
              rw [HE.out]
              exact HO1.out
          · have k3' : (f0 == 3) = false := beq_eq_false_iff_ne.mpr k3
            have HK := Aside0.mk (show encF ⟨f0, f1, f2, f3⟩ = [] by simp [encF, k1, k2, k3])
            go_wp2
            go_roundg (l.length - (i + 1))
            case measure => have := HI.out; omega
            case rel =>
              refine ⟨i + 1, by rw [HWI.out], ⟨by omega, rfl⟩, ⟨?_⟩, ⟨below_alloc HB.out _⟩⟩
              rw [HE.out]
              exact (by rw [HK.out, List.append_nil]; exact Kd.R_alloc HO.out _)
    · have hI : i = l.length := by have := HI.out; omega
      subst hI
      go_wp2
      go_ret
      refine ⟨_, rfl, ?_, HB.out⟩
      have := HO.out
      rw [List.take_length] at this
      exact this
end Go.Proofs.Ytmcgafgmhddliaa.Sep
