/- The writer of records (package pack): each of its methods writes just what is said of it, and nothing else turns. Conditions: the bounds of the statements. -/
import Derived.Test.YtcegkljkmnpkaaaSep
import Derived.WalkSpells
namespace Go.Proofs.Ytcegkljkmnpkaaa.Sep
open Go.RowKit Go.Proofs.Ytcegkljkmnpkaaa.PCore Go.Proofs.Ytcegkljkmnpkaaa.Plain Go.Proofs.YtcegkljkmnpkaaaW.PrintWords Go.Proofs.YtcegkljkmnpkaaaW.PrintLast Go.Proofs.YtcegkljkmnpkaaaW.PrintMore
/-- A writer at block g: what it has written. -/
def WrAt (B g : Nat) (W : World) (bs : List Int) : Prop := ∃ v, W.heap[g]? = some (.cells #[v] 98 (0, 0)) ∧ B ≤ g ∧ Kd.R (Kd.int .u8) 5 W B (fun _ => True) v bs
theorem WrAt.fr {B B' g : Nat} {W W1 : World} {bs : List Int} {T : List Nat} (h : WrAt B g W bs) (hf : Fr B' T W W1) (ht : 98 ∉ T ∧ 5 ∉ T) : WrAt B g W1 bs := by
  obtain ⟨v, hb, hg, hr⟩ := h
  refine ⟨v, hf.blk hb ht.1, hg, hf.R hr (fun q hq => ?_)⟩
  have : q = 5 := by simpa [Kd.int, Kd.scalar] using hq
  rw [this]
  exact ht.2
theorem WrAt.below {B g : Nat} {W W1 : World} {bs : List Int} (h : WrAt B g W bs) (hb : Below W.heap.size W W1) : WrAt B g W1 bs := h.fr (T := []) (Fr.of_below (B := B) hb) (by simp)
theorem WrAt.lt {B g : Nat} {W : World} {bs : List Int} (h : WrAt B g W bs) : B ≤ W.heap.size := by
  obtain ⟨v, hb, hg, hr⟩ := h
  exact Nat.le_of_lt (Nat.lt_of_le_of_lt hg (blk_lt hb))
theorem lebPut_calls (A0 : Option Addr) (c0 : Nat) (l0 : List Int) (A1 : Option Addr) (c1 : Nat) (l1 : List Int) (w : World) (hr0 : Kd.C (Kd.int .u8) w A0 l0.length l0) (hc0 : l0.length ≤ c0) (hr1 : Kd.C (Kd.int .u64) w A1 l1.length l1) (hc1 : l1.length ≤ c1)
    (hx : ∀ x ∈ l1, 0 ≤ x ∧ x < 18446744073709551616) (hl : l0.length + 10 * l1.length < 140737488355328) :
    Calls Try.prog 84 #[.slice A0 l0.length c0, .slice A1 l1.length c1] w fun e w' => ∃ v, e = .returned v ∧ Kd.R (Kd.int .u8) 5 w' w.heap.size (fun _ => True) v (l0 ++ encs l1) ∧ Below w.heap.size w w' := by
  obtain ⟨k, h⟩ := Ev.rounds (put_form l0 l1 hx hl)
  exact leb_Put.calls k A0 c0 l0 A1 c1 l1 _ w hr0 hc0 hr1 hc1 h
set_option maxHeartbeats 1000000 in
set_option maxRecDepth 100000 in
theorem wr_num (B g : Nat) (bs ls : List Int) (A : Option Addr) (c : Nat) (W : World) (hw : WrAt B g W bs) (hl : Kd.C (Kd.int .u64) W A ls.length ls) (hc : ls.length ≤ c)
    (hx : ∀ x ∈ ls, 0 ≤ x ∧ x < 18446744073709551616) (hlim : bs.length + 10 * ls.length < 140737488355328) :
    Calls Try.prog 54 #[.pointer (some ⟨g, 0, none⟩), .slice A ls.length c] W fun e W1 => e = .returned (.tuple #[]) ∧ WrAt B g W1 (bs ++ encs ls) ∧ Fr B [98, 5] W W1 := by
  have hle := hw.lt
  obtain ⟨v, hb, hg, hr⟩ := hw
  obtain ⟨Ab, cb, rfl, hcb, hCb⟩ := Kd.R_reads hr
  have HK := Aside0.mk hb
  have HG := Aside0.mk hg
  have HLe := Aside0.mk hle
  have HP := Aside0.mk (lebPut_calls Ab cb bs A c ls W hCb hcb hl hc hx hlim)
  have hc0 : W.cell? ⟨g, 0, none⟩ = some (.slice Ab bs.length cb) := (blk_cell hb 0).trans rfl
  clear hb hg hr hl hc hx hlim hCb hcb hle
  go_enter Try.func54, Try.ntmps54
  go_wp2_with fail
  refine HP.out.mono ?_
  rintro e w1 ⟨v1, rfl, hr1, hb1⟩
  have hk1 := blk_below HK.out hb1
  have hc1 : w1.cell? ⟨g, 0, none⟩ = some (.slice Ab bs.length cb) := (blk_cell hk1 0).trans rfl
  have hf1 := blk_frozen hk1 0
  have HK1 := Aside0.mk hk1
  have HR1 := Aside0.mk hr1
  have HB1 := Aside0.mk hb1
  clear hk1 hr1 hb1 hc0
  obtain ⟨A1, n1, c1, hv1⟩ := R_slice' HR1.out
  subst hv1
  go_wp2
  go_end0
  refine ⟨rfl, ⟨_, by simpa using blk_set HK1.out 0 _, HG.out, ?_⟩, ?_⟩
  · exact Kd.R_set (Kd.R_lower HR1.out HLe.out) HK1.out (by decide) 0 _
  · exact (Fr.of_below HB1.out).set HK.out HG.out (by decide) 0 _
/-- One number. -/
theorem wr_num1 (B g : Nat) (bs : List Int) (x : Int) (W : World) (hw : WrAt B g W bs) (hx : 0 ≤ x ∧ x < 18446744073709551616) (hlim : bs.length + 10 < 140737488355328) :
    Calls Try.prog 54 #[.pointer (some ⟨g, 0, none⟩), .slice (some ⟨W.heap.size, 0, none⟩) 1 1] (W.alloc (.cells #[.int .u64 x] 23)) fun e W1 => e = .returned (.tuple #[]) ∧ WrAt B g W1 (bs ++ enc x) ∧ Fr B [98, 5] W W1 := by
  have h := wr_num B g bs [x] (some ⟨W.heap.size, 0, none⟩) 1 (W.alloc (.cells #[.int .u64 x] 23)) (hw.below (below_alloc (Below.refl _ _) _)) (lit_reads .u64 23 W [x] (by simp)) (by simp)
    (fun y hy => by rw [List.mem_singleton.1 hy]; exact hx) (by simp; omega)
  rw [encs_cons, encs_nil, List.append_nil] at h
  exact h.mono fun e W1 ⟨he, h1, h2⟩ => ⟨he, h1, h2.alloc⟩
/-- Two numbers. -/
theorem wr_num2 (B g : Nat) (bs : List Int) (x y : Int) (W : World) (hw : WrAt B g W bs) (hx : 0 ≤ x ∧ x < 18446744073709551616) (hy : 0 ≤ y ∧ y < 18446744073709551616) (hlim : bs.length + 20 < 140737488355328) :
    Calls Try.prog 54 #[.pointer (some ⟨g, 0, none⟩), .slice (some ⟨W.heap.size, 0, none⟩) 2 2] (W.alloc (.cells #[.int .u64 x, .int .u64 y] 23)) fun e W1 => e = .returned (.tuple #[]) ∧ WrAt B g W1 (bs ++ enc x ++ enc y) ∧ Fr B [98, 5] W W1 := by
  have h := wr_num B g bs [x, y] (some ⟨W.heap.size, 0, none⟩) 2 (W.alloc (.cells #[.int .u64 x, .int .u64 y] 23)) (hw.below (below_alloc (Below.refl _ _) _)) (lit_reads .u64 23 W [x, y] (by simp)) (by simp)
    (fun z hz => by
      simp only [List.mem_cons, List.not_mem_nil, or_false] at hz
      rcases hz with rfl | rfl
      · exact hx
      · exact hy) (by simp; omega)
  rw [encs_cons, encs_cons, encs_nil, List.append_nil, ← List.append_assoc] at h
  exact h.mono fun e W1 ⟨he, h1, h2⟩ => ⟨he, h1, h2.alloc⟩
/-- A text, as it is written. -/
def encT (s : ByteArray) : List Int := enc s.size ++ bytesOf s
/-- A flag, as it is written. -/
def encB (b : Bool) : List Int := [if b then 1 else 0]
theorem encT_len (s : ByteArray) (h : s.size ≤ 140737488355328) : (encT s).length ≤ s.size + 10 := by
  have := enc_len_u64 (n := (s.size : Int)) (by omega) (by omega)
  rw [encT, List.length_append, bytesOf_length]
  omega
set_option maxHeartbeats 1000000 in
set_option maxRecDepth 100000 in
theorem wr_text (B g : Nat) (bs : List Int) (s : ByteArray) (W : World) (hw : WrAt B g W bs) (hlim : bs.length + s.size + 20 < 140737488355328) :
    Calls Try.prog 56 #[.pointer (some ⟨g, 0, none⟩), .string s] W fun e W1 => e = .returned (.tuple #[]) ∧ WrAt B g W1 (bs ++ encT s) ∧ Fr B [98, 5] W W1 := by
  have HW := Aside0.mk hw
  have HL := Aside0.mk (enc_len_u64 (n := (s.size : Int)) (by omega) (by omega))
  have HLe := Aside0.mk hw.lt
  clear hw
  go_enter Try.func56, Try.ntmps56
  go_wp2_with fail
  refine (wr_num1 B g bs (s.size : Int) W HW.out ⟨by omega, by omega⟩ (by omega)).mono ?_
  rintro e w1 ⟨rfl, ⟨v, hb, hg, hr⟩, hF1⟩
  obtain ⟨A1, n1, c1, hv1⟩ := R_slice' hr
  subst hv1
  have hc1 : w1.cell? ⟨g, 0, none⟩ = some (.slice A1 n1 c1) := (blk_cell hb 0).trans rfl
  have HK1 := Aside0.mk hb
  have HG := Aside0.mk hg
  have HR1 := Aside0.mk hr
  have HF1 := Aside0.mk hF1
  clear hb hg hr hF1
  go_wp2_with (at_builtin; refine print_append_str (w0 := w1) B rfl (.tmp 16) (.tmp 17) 35 9 5 rfl Try.underlying35 Try.underlying9 info5 (.slice A1 n1 c1) (bs ++ enc s.size) s rfl rfl ?aO ?aB ?aS ?aL ?_; (case aO => exact Kd.own_of_R HR1.out); (case aB => exact Below.refl _ _); (case aS => exact Nat.le_of_lt (Nat.lt_of_le_of_lt HG.out (blk_lt HK1.out))); (case aL => have := HL.out; rw [List.length_append]; omega); intro v2 w2 ho2 hb2 hg2; clear hb2; obtain ⟨A2, n2, c2, hv2⟩ := own_slice' ho2; subst hv2; have HO2 := Aside0.mk ho2; have HF2 := Aside0.mk (Fr.of_grown (B := B) (T := [98, 5]) (Kd.own_of_R HR1.out) (Nat.le_refl _) hg2 (by decide)); have HK2 := Aside0.mk (blk_grown HK1.out hg2 (Kd.R_ne HR1.out HK1.out (by decide))); have hc2 : w2.cell? ⟨g, 0, none⟩ = some (.slice A1 n1 c1) := (blk_cell HK2.out 0).trans rfl; have hf2 := blk_frozen HK2.out 0; clear ho2 hg2 hc1)
  go_end0
  refine ⟨rfl, ⟨_, by simpa using blk_set HK2.out 0 _, HG.out, ?_⟩, (HF1.out.trans HF2.out).trans ((Fr.refl _ _ _).set HK2.out HG.out (by decide) 0 _)⟩
  have h := Kd.R_set (Kd.R_of_own (h1 := fun _ => rfl) (ok := fun _ => True) HO2.out (fun _ _ => trivial)) HK2.out (by decide) 0 (.slice A2 n2 c2)
  rw [List.append_assoc] at h
  exact h
set_option maxHeartbeats 1000000 in
theorem wr_flag (B g : Nat) (bs : List Int) (b : Bool) (W : World) (hw : WrAt B g W bs) (hlim : bs.length + 10 < 140737488355328) :
    Calls Try.prog 55 #[.pointer (some ⟨g, 0, none⟩), .bool b] W fun e W1 => e = .returned (.tuple #[]) ∧ WrAt B g W1 (bs ++ encB b) ∧ Fr B [98, 5] W W1 := by
  have HW := Aside0.mk hw
  clear hw
  cases b with
  | true =>
    have H := Aside0.mk (wr_num1 B g bs 1 W HW.out ⟨by decide, by decide⟩ hlim)
    go_enter Try.func55, Try.ntmps55
    go_wp2_with fail
    refine H.out.mono ?_
    rintro e w1 ⟨rfl, h1, h2⟩
    have H1 := Aside0.mk h1
    have H2 := Aside0.mk h2
    clear h1 h2
    go_wp2
    refine bodyPost_ret (v := .tuple #[]) (by simp [results, Try.results55, go_sem]) rfl ?_
    exact ⟨rfl, by have := H1.out; rw [enc_lt (by decide)] at this; exact this, H2.out⟩
  | false =>
    have H := Aside0.mk (wr_num1 B g bs 0 W HW.out ⟨by decide, by decide⟩ hlim)
    go_enter Try.func55, Try.ntmps55
    go_wp2_with fail
    refine H.out.mono ?_
    rintro e w1 ⟨rfl, h1, h2⟩
    have H1 := Aside0.mk h1
    have H2 := Aside0.mk h2
    clear h1 h2
    go_wp2
    go_end0
    exact ⟨rfl, by have := H1.out; rw [enc_lt (by decide)] at this; exact this, H2.out⟩
/-- slices.Clone of bytes. -/
theorem clone_calls (A : Option Addr) (c : Nat) (bs : List Int) (W : World) (hC : Kd.C (Kd.int .u8) W A bs.length bs) (hlim : bs.length < 140737488355328) :
    Calls Try.prog 76 #[.slice A bs.length c] W fun e W1 => ∃ v, e = .returned v ∧ Kd.R (Kd.int .u8) 5 W1 W.heap.size (fun _ => True) v bs ∧ Below W.heap.size W W1 := by
  cases A with
  | none =>
    have hn : bs = [] := by
      cases bs with
      | nil => rfl
      | cons x xs =>
        obtain ⟨ad, e, _⟩ := hC.2.2 (by simp)
        cases e
    subst hn
    clear hC
    have hq := fun W1 : World => Lib.run_eql_slice_nil (P := Try.prog) W1 35 5 none 0 c 0 0 Try.underlying35
    go_enter Try.func76, Try.ntmps76
    go_wp2
    go_ret
    exact ⟨_, rfl, Kd.R_nil _ _ _ _ _, Below.refl _ _⟩
  | some a =>
    have hq := fun W1 : World => Lib.run_eql_slice_nil (P := Try.prog) W1 35 5 (some a) bs.length c 0 0 Try.underlying35
    have HC := Aside0.mk hC
    have HL := Aside0.mk hlim
    clear hC hlim
    go_enter Try.func76, Try.ntmps76
    go_wp2_with (at_builtin; refine Kd.R_append_rows (Kd.int .u8) (w0 := W) W.heap.size rfl (.tmp 5) (.tmp 6) 35 5 (.int .u8 0) 1 rfl Try.underlying35 info5 rfl (by decide) (by omega) (.slice (some ⟨W.heap.size, 0, none⟩) 0 0) ([] : List Int) bs _ _ _ (fun _ => True) (fun _ => False) rfl rfl ?aO ?aR (fun _ _ h => h) (fun _ h => h.elim) ?aF ?aB ?aS ?aL ?_; (try (case aO => exact Kd.R_of_own (h1 := fun _ => rfl) (own_lit W W.heap.size 5 .u8 [] (Nat.le_refl _) (by simp)) (fun _ _ => trivial))); (case aR => exact Kd.C_below HC.out (below_alloc (Below.refl _ _) _)); (case aF => exact fun _ _ => trivial); (case aB => exact below_alloc (Below.refl _ _) _); (case aS => exact (below_alloc (Below.refl _ _) _).size); (case aL => have := HL.out; simp; omega); intro v1 w1 hr hb hg hat; have HR := Aside0.mk hr; have HB := Aside0.mk hb; clear hr hb hg hat)
    go_ret
    exact ⟨_, rfl, HR.out, HB.out⟩
set_option maxHeartbeats 1000000 in
theorem wr_bytes (B g : Nat) (bs : List Int) (W : World) (hw : WrAt B g W bs) (hlim : bs.length < 140737488355328) :
    Calls Try.prog 68 #[.pointer (some ⟨g, 0, none⟩)] W fun e W1 => ∃ v, e = .returned v ∧ Kd.R (Kd.int .u8) 5 W1 W.heap.size (fun _ => True) v bs ∧ Below W.heap.size W W1 := by
  obtain ⟨v, hb, hg, hr⟩ := hw
  obtain ⟨Ab, cb, rfl, hcb, hCb⟩ := Kd.R_reads hr
  have HP := Aside0.mk (clone_calls Ab cb bs W hCb hlim)
  have hc0 : W.cell? ⟨g, 0, none⟩ = some (.slice Ab bs.length cb) := (blk_cell hb 0).trans rfl
  clear hb hg hr hlim hCb hcb
  go_enter Try.func68, Try.ntmps68
  go_wp2_with fail
  refine HP.out.mono ?_
  rintro e w1 ⟨v1, rfl, hr1, hb1⟩
  have HR1 := Aside0.mk hr1
  have HB1 := Aside0.mk hb1
  clear hr1 hb1 hc0
  go_wp2
  go_ret
  exact ⟨_, rfl, HR1.out, HB1.out⟩
end Go.Proofs.Ytcegkljkmnpkaaa.Sep
