/- The reference's Num, Flag, Text once more: of what was there only bytes have turned. Conditions: the bounds of the statements. -/
import Derived.Test.YtcegkljkmnpkaaaRefPut
namespace Go.Proofs.Ytcegkljkmnpkaaa.Sep
open Go.RowKit Go.Proofs.Ytcegkljkmnpkaaa.PCore Go.Proofs.Ytcegkljkmnpkaaa.Plain Go.Proofs.YtcegkljkmnpkaaaW.PrintWords Go.Proofs.YtcegkljkmnpkaaaW.PrintLast Go.Proofs.YtcegkljkmnpkaaaW.PrintMore
theorem fr_of_kept {w0 w w' : World} {v : Value} {bs : List Int} (hB : Below w0.heap.size w0 w) (hr : Kd.R (Kd.int .u8) 5 w w0.heap.size (fun _ => True) v bs) (hb : Below w0.heap.size w0 w') (hk : Kept w w' (fun k => v.ownBlock = some k)) : Fr w0.heap.size [5] w w' :=
  ⟨hb.os.trans hB.os.symm, hb.tape.trans hB.tape.symm, hb.output.trans hB.output.symm, hk.1, fun k hk' hT => hk.2 k hk' (fun e => by
    obtain ⟨cs, hc⟩ := own_typed (Kd.own_of_R hr) k e
    have := own_base (Kd.own_of_R hr) k e
    rcases hT with hT | hT
    · omega
    · exact hT 5 (by simp) ⟨cs, _, hc⟩)⟩
theorem rn_num2 (w0 w : World) (v : Value) (bs : List Int) (n : Int) (hB : Below w0.heap.size w0 w) (hr : Kd.R (Kd.int .u8) 5 w w0.heap.size (fun _ => True) v bs) (hn : 0 ≤ n ∧ n < 18446744073709551616) (hl : bs.length + 10 ≤ 140737488355328) :
    Calls Try.prog 71 #[v, .int .u64 n] w fun e w' => ∃ v1, e = .returned v1 ∧ Kd.R (Kd.int .u8) 5 w' w0.heap.size (fun _ => True) v1 (bs ++ enc n) ∧ Below w0.heap.size w0 w' ∧ Fr w0.heap.size [5] w w' := by
  obtain ⟨k, h⟩ := Ev.rounds (num_form bs hn.1 hn.2 hl)
  exact (apographref01_Num.calls k (fun k => v.ownBlock = some k) v bs n _ w0 w hB (Kd.R_of_own (Kd.own_of_R hr) (fun k hk => hk)) h).mono fun e w' ⟨v1, he, hr1, hb, hkp⟩ => ⟨v1, he, Kd.R_mono hr1 (fun _ _ => trivial), hb, fr_of_kept hB hr hb hkp⟩
theorem rn_flag2 (w0 w : World) (v : Value) (bs : List Int) (b : Bool) (hB : Below w0.heap.size w0 w) (hr : Kd.R (Kd.int .u8) 5 w w0.heap.size (fun _ => True) v bs) (hl : bs.length + 10 ≤ 140737488355328) :
    Calls Try.prog 70 #[v, .bool b] w fun e w' => ∃ v1, e = .returned v1 ∧ Kd.R (Kd.int .u8) 5 w' w0.heap.size (fun _ => True) v1 (bs ++ encB b) ∧ Below w0.heap.size w0 w' ∧ Fr w0.heap.size [5] w w' := by
  have h : apographref01_Flag.f bs b = some (bs ++ encB b) := by
    cases b <;> simp [apographref01_Flag.f, encB] <;> omega
  exact (apographref01_Flag.calls (fun k => v.ownBlock = some k) v bs b _ w0 w hB (Kd.R_of_own (Kd.own_of_R hr) (fun k hk => hk)) h).mono fun e w' ⟨v1, he, hr1, hb, hkp⟩ => ⟨v1, he, Kd.R_mono hr1 (fun _ _ => trivial), hb, fr_of_kept hB hr hb hkp⟩
set_option maxHeartbeats 1000000 in
set_option maxRecDepth 100000 in
theorem rn_text2 (w0 w : World) (v : Value) (bs : List Int) (s : ByteArray) (hB : Below w0.heap.size w0 w) (hr : Kd.R (Kd.int .u8) 5 w w0.heap.size (fun _ => True) v bs) (hl : bs.length + s.size + 20 < 140737488355328) :
    Calls Try.prog 69 #[v, .string s] w fun e w' => ∃ v1, e = .returned v1 ∧ Kd.R (Kd.int .u8) 5 w' w0.heap.size (fun _ => True) v1 (bs ++ encT s) ∧ Below w0.heap.size w0 w' ∧ Fr w0.heap.size [5] w w' := by
  have HL := Aside0.mk (enc_len_u64 (n := (s.size : Int)) (by omega) (by omega))
  have HL2 := Aside0.mk hl
  have hwl : IntKind.u64.wrap (s.size : Int) = (s.size : Int) := by rw [IntKind.wrap_u64]; omega
  have HN := Aside0.mk (rn_num2 w0 w v bs (s.size : Int) hB hr ⟨by omega, by omega⟩ (by omega))
  clear hB hr hl
  go_enter Try.func69, Try.ntmps69
  go_wp2_with (first | (go_at_call 71; refine HN.out.mono ?_; rintro e w1 ⟨v1, rfl, hr1, hb1, hf1⟩; obtain ⟨A1, n1, c1, hv1⟩ := R_slice' hr1; subst hv1; have HR1 := Aside0.mk hr1; have HB1 := Aside0.mk hb1; have HF1 := Aside0.mk hf1; clear hr1 hb1 hf1) | (at_builtin; refine print_append_str (w0 := w0) w0.heap.size rfl (.tmp 9) (.tmp 10) 35 9 5 rfl Try.underlying35 Try.underlying9 info5 (.slice A1 n1 c1) (bs ++ enc s.size) s rfl rfl ?aO ?aB ?aS ?aL ?_; (case aO => exact Kd.own_of_R HR1.out); (case aB => exact HB1.out); (case aS => exact HB1.out.size); (case aL => have := HL.out; have := HL2.out; rw [List.length_append]; omega); intro v2 w2 ho2 hb2 hg2; have HO2 := Aside0.mk ho2; have HB2 := Aside0.mk hb2; have HF2 := Aside0.mk (HF1.out.trans (Fr.of_grown (B := w0.heap.size) (T := [5]) (Kd.own_of_R HR1.out) (Nat.le_refl _) hg2 (by simp))); clear ho2 hb2 hg2))
  go_ret
  refine ⟨_, rfl, ?_, HB2.out, HF2.out⟩
  have h := Kd.R_of_own (h1 := fun _ => rfl) (ok := fun _ => True) HO2.out (fun _ _ => trivial)
  rw [List.append_assoc] at h
  exact h
end Go.Proofs.Ytcegkljkmnpkaaa.Sep
