/- The readers of records (package pack's, and the reference's): each of their methods tells just what is said of it, and nothing else turns. Conditions: the bounds of the statements. -/
import Derived.Test.YtcegkljkmnpkaaaWriter
namespace Go.Proofs.Ytcegkljkmnpkaaa.Sep
open Go.RowKit Go.Proofs.Ytcegkljkmnpkaaa.PCore Go.Proofs.Ytcegkljkmnpkaaa.Plain Go.Proofs.YtcegkljkmnpkaaaW.PrintWords Go.Proofs.YtcegkljkmnpkaaaW.PrintLast Go.Proofs.YtcegkljkmnpkaaaW.PrintMore
/-- What is left to be read, and whether reading has failed. -/
abbrev RS := List Int × Bool
/-- Bytes, not too many; one that has failed has none. -/
def Fine (s : RS) : Prop := (∀ x ∈ s.1, 0 ≤ x ∧ x < 256) ∧ s.1.length ≤ 1000000 ∧ (s.2 = true → s.1 = [])
def failed : RS := ([], true)
theorem fine_failed : Fine failed := ⟨fun x hx => by simp [failed] at hx, by simp [failed], fun _ => rfl⟩
/-- Reading a number. -/
def rdNum (most : Int) (s : RS) : Int × RS :=
  if s.2 = true then (0, s) else match dec 0 s.1 with
    | none => (0, failed)
    | some (n, k) => if most < n then (0, failed) else (n, (s.1.drop k, false))
/-- Reading a text. -/
def rdText (most : Int) (s : RS) : ByteArray × RS :=
  if most < 0 then (⟨#[]⟩, failed) else
    let p := rdNum most s
    if p.2.2 = true then (⟨#[]⟩, p.2) else if (p.2.1.length : Int) < p.1 then (⟨#[]⟩, failed) else (strOfNums (p.2.1.take p.1.toNat), (p.2.1.drop p.1.toNat, false))
/-- Reading a flag. -/
def rdFlag (s : RS) : Bool × RS := ((rdNum 1 s).1 == 1, (rdNum 1 s).2)
theorem fine_drop {s : RS} (h : Fine s) (k : Nat) : Fine (s.1.drop k, false) :=
  ⟨fun x hx => h.1 x (List.mem_of_mem_drop hx), by have := h.2.1; simp only [List.length_drop]; omega, fun h => by simp at h⟩
theorem fine_num {s : RS} (h : Fine s) (most : Int) : Fine (rdNum most s).2 := by
  unfold rdNum
  by_cases c : s.2 = true
  · rw [if_pos c]; exact h
  · rw [if_neg c]
    cases dec 0 s.1 with
    | none => exact fine_failed
    | some p =>
      obtain ⟨n, k⟩ := p
      by_cases c2 : most < n
      · simp only [if_pos c2]; exact fine_failed
      · simp only [if_neg c2]; exact fine_drop h k
theorem num_in {s : RS} (h : Fine s) (most : Int) (hm : 0 ≤ most) : 0 ≤ (rdNum most s).1 ∧ (rdNum most s).1 ≤ most ∧ (rdNum most s).1 < 18446744073709551616 := by
  unfold rdNum
  by_cases c : s.2 = true
  · rw [if_pos c]; exact ⟨Int.le_refl (0 : Int), hm, (by decide : (0 : Int) < 18446744073709551616)⟩
  · rw [if_neg c]
    cases hd : dec 0 s.1 with
    | none => exact ⟨Int.le_refl (0 : Int), hm, (by decide : (0 : Int) < 18446744073709551616)⟩
    | some p =>
      obtain ⟨n, k⟩ := p
      obtain ⟨h0, _, _, hl, _, _⟩ := dec_some s.1 0 n k h.1 hd
      rw [lim_zero] at hl
      by_cases c2 : most < n
      · simp only [if_pos c2]; exact ⟨Int.le_refl (0 : Int), hm, (by decide : (0 : Int) < 18446744073709551616)⟩
      · simp only [if_neg c2]; exact ⟨h0, by omega, hl⟩
theorem fine_text {s : RS} (h : Fine s) (most : Int) : Fine (rdText most s).2 := by
  unfold rdText
  by_cases c : most < 0
  · rw [if_pos c]; exact fine_failed
  · rw [if_neg c]
    have hp := fine_num h most
    by_cases c2 : (rdNum most s).2.2 = true
    · simp only [if_pos c2]; exact hp
    · simp only [if_neg c2]
      by_cases c3 : ((rdNum most s).2.1.length : Int) < (rdNum most s).1
      · simp only [if_pos c3]; exact fine_failed
      · simp only [if_neg c3]; exact fine_drop hp _
theorem fine_flag {s : RS} (h : Fine s) : Fine (rdFlag s).2 := fine_num h 1
/-- A reader of type t at block g. -/
def RdAt (t B g : Nat) (W : World) (s : RS) : Prop :=
  ∃ A c, W.heap[g]? = some (.cells #[.slice A s.1.length c, .bool s.2] t (0, 0)) ∧ B ≤ g ∧ s.1.length ≤ c ∧ Kd.C (Kd.int .u8) W A s.1.length s.1 ∧ (0 < s.1.length → ∀ ad, A = some ad → ad.block < B ∨ Ty W ad.block 5) ∧ Fine s
theorem RdAt.fr {t B g : Nat} {W W1 : World} {s : RS} {T : List Nat} (h : RdAt t B g W s) (hf : Fr B T W W1) (ht : t ∉ T ∧ 5 ∉ T) : RdAt t B g W1 s := by
  obtain ⟨A, c, hb, hg, hc, hC, hA, hF⟩ := h
  have hlt : B ≤ W.heap.size := Nat.le_of_lt (Nat.lt_of_le_of_lt hg (blk_lt hb))
  have hsame : 0 < s.1.length → ∀ ad, A = some ad → W1.heap[ad.block]? = W.heap[ad.block]? := fun hp ad e => by
    rcases hA hp ad e with h | h
    · exact hf.block _ (Nat.lt_of_lt_of_le h hlt) (.inl h)
    · exact hf.keep h ht.2
  exact ⟨A, c, hf.blk hb ht.1, hg, hc, C_same hC hsame, fun hp ad e => (hA hp ad e).imp id (fun h => hf.ty h ht.2), hF⟩
theorem RdAt.below {t B g : Nat} {W W1 : World} {s : RS} (h : RdAt t B g W s) (hb : Below W.heap.size W W1) : RdAt t B g W1 s := h.fr (T := []) (Fr.of_below hb) (by simp)
theorem RdAt.lt {t B g : Nat} {W : World} {s : RS} (h : RdAt t B g W s) : B ≤ W.heap.size := by
  obtain ⟨A, c, hb, hg, _⟩ := h
  exact Nat.le_of_lt (Nat.lt_of_le_of_lt hg (blk_lt hb))
theorem RdAt.fine {t B g : Nat} {W : World} {s : RS} (h : RdAt t B g W s) : Fine s := by
  obtain ⟨A, c, _, _, _, _, _, hF⟩ := h
  exact hF
theorem told_zero (o : Option (Int × Nat)) : told 0 0 o = match o with | none => (0, 0, 20) | some (n, s) => (n, (s : Int), 0) := by
  cases o with
  | none => rfl
  | some p => obtain ⟨n, s⟩ := p; simp [told]
theorem lebOf_calls (A0 : Option Addr) (c0 : Nat) (b : List Int) (w : World) (hr0 : Kd.C (Kd.int .u8) w A0 b.length b) (hc0 : b.length ≤ c0) (hb : ∀ x ∈ b, 0 ≤ x ∧ x < 256) (hl : b.length ≤ 1000000) :
    Calls Try.prog 78 #[.slice A0 b.length c0] w fun e w' => e = .returned (.tuple #[.int .u64 (told 0 0 (dec 0 b)).1, .int .i64 (told 0 0 (dec 0 b)).2.1, .int .i64 (told 0 0 (dec 0 b)).2.2]) ∧ Below w.heap.size w w' := by
  obtain ⟨k, h⟩ := Ev.rounds (of_form b hb (by omega))
  exact (leb_Of.calls k A0 c0 b _ _ _ w hr0 hc0 h).mono fun e w' ⟨he, hd⟩ => ⟨he, hd.below⟩
theorem leb_form (b : List Int) (hb : ∀ x ∈ b, 0 ≤ x ∧ x < 256) (hn : b.length ≤ 140737488355328) : Ev (fun k => apographref01_Leb.f k b) (told 0 0 (dec 0 b)) := by
  have h := leb_loop b.length b 0 (by omega) hb hn (by omega) (by intro x hx; simp at hx)
  have e : IntKind.u64.wrap (128 ^ 0) = 1 := by decide
  rw [e, List.take_zero, List.drop_zero] at h
  have e0 : ((0 : Nat) : Int) = 0 := rfl
  have e1 : valp [] = 0 := rfl
  rw [e0, e1] at h
  refine Ev.congr (fun k => ?_) h
  unfold apographref01_Leb.f
  rfl
theorem refLeb_calls (A0 : Option Addr) (c0 : Nat) (b : List Int) (w : World) (hr0 : Kd.C (Kd.int .u8) w A0 b.length b) (hc0 : b.length ≤ c0) (hb : ∀ x ∈ b, 0 ≤ x ∧ x < 256) (hl : b.length ≤ 1000000) :
    Calls Try.prog 82 #[.slice A0 b.length c0] w fun e w' => e = .returned (.tuple #[.int .u64 (told 0 0 (dec 0 b)).1, .int .i64 (told 0 0 (dec 0 b)).2.1, .int .i64 (told 0 0 (dec 0 b)).2.2]) ∧ Below w.heap.size w w' := by
  obtain ⟨k, h⟩ := Ev.rounds (leb_form b hb (by omega))
  exact apographref01_Leb.calls k A0 c0 b _ _ _ w hr0 hc0 h
/-- A cut from the front, wherever it may begin. -/
theorem cut_front (A : Option Addr) (bs : List Int) (c k : Nat) (hk : k ≤ bs.length) (hc : bs.length ≤ c) :
    ∃ A' : Option Addr, (∀ W : World, (Instr.slice 35 (.slice A bs.length c) (some (.int .i64 (k : Int))) none none).run Try.prog W = .ok (.slice A' (bs.drop k).length (c - k)) W) ∧
      (∀ w : World, Kd.C (Kd.int .u8) w A bs.length bs → Kd.C (Kd.int .u8) w A' (bs.drop k).length (bs.drop k)) ∧ (∀ ad, A' = some ad → ∃ ad0, A = some ad0 ∧ ad.block = ad0.block) := by
  obtain ⟨i, hi, _, hsz, _⟩ := info_parts info5
  have hel : Try.prog.elem 35 = 5 := by simp [Program.elem, Try.underlying35]
  have hu : Try.prog.underlying 35 = some (.slice (Try.prog.elem 35)) := by rw [hel]; exact Try.underlying35
  refine ⟨if c = k then A else A.map (·.add k), fun W => ?_, fun w h => ?_, fun ad e => ?_⟩
  · rw [run_slice_l W 35 A bs.length c hu .i64 (k : Int) (Int.natCast_nonneg _) (by omega), hel, List.length_drop]
    simp [sizeOf, typeInfo, hi, hsz, sliced, Result.andThen]
  · have h2 := (show ReadsInt w .u8 A bs.length bs from Kd.reads_of_C (d := 0) h).drop_ (c := c) k hk hc
    rw [List.length_drop]
    exact Kd.C_of_reads (h1 := fun _ => rfl) h2
  · by_cases ck : c = k
    · rw [if_pos ck] at e; exact ⟨ad, e, rfl⟩
    · rw [if_neg ck] at e
      cases A with
      | none => simp at e
      | some a => simp at e; exact ⟨a, rfl, by rw [← e]; exact add_block a k⟩
/-- The step of a reader: its cells turn, nothing else. -/
theorem RdAt.put {t B g : Nat} {W1 : World} {s' : RS} {A' : Option Addr} {c' : Nat} {x y : Value} (hb : W1.heap[g]? = some (.cells #[x, y] t (0, 0))) (h5 : t ≠ 5) (hg : B ≤ g)
    (hc : s'.1.length ≤ c') (hC : Kd.C (Kd.int .u8) W1 A' s'.1.length s'.1) (hA : 0 < s'.1.length → ∀ ad, A' = some ad → ad.block < B ∨ Ty W1 ad.block 5) (hF : Fine s') :
    RdAt t B g ((W1.setCell ⟨g, 0, none⟩ (.slice A' s'.1.length c')).setCell ⟨g, 1, none⟩ (.bool s'.2)) s' := by
  have hne : 0 < s'.1.length → ∀ ad, A' = some ad → ad.block ≠ g := fun hp ad e hk => by
    rcases hA hp ad e with h | h
    · omega
    · rw [hk] at h
      exact h5 (Ty.one ⟨_, _, hb⟩ h)
  have hk1 := blk_set hb 0 (.slice A' s'.1.length c')
  have hk2 := blk_set hk1 1 (.bool s'.2)
  have hsame : 0 < s'.1.length → ∀ ad, A' = some ad → ((W1.setCell ⟨g, 0, none⟩ (.slice A' s'.1.length c')).setCell ⟨g, 1, none⟩ (.bool s'.2)).heap[ad.block]? = W1.heap[ad.block]? := fun hp ad e => by
    rw [Below.heap_setCell _ _ _ _ (hne hp ad e), Below.heap_setCell _ _ _ _ (hne hp ad e)]
  refine ⟨A', c', by simpa using hk2, hg, hc, C_same hC hsame, fun hp ad e => (hA hp ad e).imp id (fun h => ?_), hF⟩
  obtain ⟨cs', fr, hc'⟩ := h
  exact ⟨cs', fr, (hsame hp ad e).trans hc'⟩
/-- The same where the flag stays as it is. -/
theorem RdAt.put1 {t B g : Nat} {W1 : World} {l : List Int} {b : Bool} {A' : Option Addr} {c' : Nat} {x : Value} (hb : W1.heap[g]? = some (.cells #[x, .bool b] t (0, 0))) (h5 : t ≠ 5) (hg : B ≤ g)
    (hc : l.length ≤ c') (hC : Kd.C (Kd.int .u8) W1 A' l.length l) (hA : 0 < l.length → ∀ ad, A' = some ad → ad.block < B ∨ Ty W1 ad.block 5) (hF : Fine (l, b)) :
    RdAt t B g (W1.setCell ⟨g, 0, none⟩ (.slice A' l.length c')) (l, b) := by
  have hne : 0 < l.length → ∀ ad, A' = some ad → ad.block ≠ g := fun hp ad e hk => by
    rcases hA hp ad e with h | h
    · omega
    · rw [hk] at h
      exact h5 (Ty.one ⟨_, _, hb⟩ h)
  have hk1 := blk_set hb 0 (.slice A' l.length c')
  have hsame : 0 < l.length → ∀ ad, A' = some ad → (W1.setCell ⟨g, 0, none⟩ (.slice A' l.length c')).heap[ad.block]? = W1.heap[ad.block]? := fun hp ad e => by
    rw [Below.heap_setCell _ _ _ _ (hne hp ad e)]
  refine ⟨A', c', by simpa using hk1, hg, hc, C_same hC hsame, fun hp ad e => (hA hp ad e).imp id (fun h => ?_), hF⟩
  obtain ⟨cs', fr, hc'⟩ := h
  exact ⟨cs', fr, (hsame hp ad e).trans hc'⟩
theorem lebOf_none (A0 : Option Addr) (c0 : Nat) (b : List Int) (w : World) (hr0 : Kd.C (Kd.int .u8) w A0 b.length b) (hc0 : b.length ≤ c0) (hF : Fine (b, false)) (hd : dec 0 b = none) :
    Calls Try.prog 78 #[.slice A0 b.length c0] w fun e w' => e = .returned (.tuple #[.int .u64 0, .int .i64 0, .int .i64 20]) ∧ Below w.heap.size w w' := by
  have h := lebOf_calls A0 c0 b w hr0 hc0 hF.1 hF.2.1
  rw [hd] at h
  exact h
theorem lebOf_some (A0 : Option Addr) (c0 : Nat) (b : List Int) (n : Int) (k : Nat) (w : World) (hr0 : Kd.C (Kd.int .u8) w A0 b.length b) (hc0 : b.length ≤ c0) (hF : Fine (b, false)) (hd : dec 0 b = some (n, k)) :
    Calls Try.prog 78 #[.slice A0 b.length c0] w fun e w' => e = .returned (.tuple #[.int .u64 n, .int .i64 (k : Int), .int .i64 0]) ∧ Below w.heap.size w w' := by
  have h := lebOf_calls A0 c0 b w hr0 hc0 hF.1 hF.2.1
  rw [hd, told_zero] at h
  exact h
theorem refLeb_none (A0 : Option Addr) (c0 : Nat) (b : List Int) (w : World) (hr0 : Kd.C (Kd.int .u8) w A0 b.length b) (hc0 : b.length ≤ c0) (hF : Fine (b, false)) (hd : dec 0 b = none) :
    Calls Try.prog 82 #[.slice A0 b.length c0] w fun e w' => e = .returned (.tuple #[.int .u64 0, .int .i64 0, .int .i64 20]) ∧ Below w.heap.size w w' := by
  have h := refLeb_calls A0 c0 b w hr0 hc0 hF.1 hF.2.1
  rw [hd] at h
  exact h
theorem refLeb_some (A0 : Option Addr) (c0 : Nat) (b : List Int) (n : Int) (k : Nat) (w : World) (hr0 : Kd.C (Kd.int .u8) w A0 b.length b) (hc0 : b.length ≤ c0) (hF : Fine (b, false)) (hd : dec 0 b = some (n, k)) :
    Calls Try.prog 82 #[.slice A0 b.length c0] w fun e w' => e = .returned (.tuple #[.int .u64 n, .int .i64 (k : Int), .int .i64 0]) ∧ Below w.heap.size w w' := by
  have h := refLeb_calls A0 c0 b w hr0 hc0 hF.1 hF.2.1
  rw [hd, told_zero] at h
  exact h
set_option maxHeartbeats 1000000 in
theorem rd_ok (B g : Nat) (s : RS) (W : World) (h : RdAt 127 B g W s) :
    Calls Try.prog 77 #[.pointer (some ⟨g, 0, none⟩)] W fun e W1 => e = .returned (.bool (!s.2)) ∧ W = W1 := by
  obtain ⟨A, c, hb, hg, hc, hC, hA, hF⟩ := h
  have hc1 : W.cell? ⟨g, 1, none⟩ = some (.bool s.2) := (blk_cell hb 1).trans rfl
  clear hb hg hc hC hA hF
  go_enter Try.func77, Try.ntmps77
  go_wp2
  go_ret
  exact ⟨rfl, rfl⟩
set_option maxHeartbeats 1000000 in
theorem rd_fail (B g : Nat) (s : RS) (W : World) (h : RdAt 127 B g W s) :
    Calls Try.prog 79 #[.pointer (some ⟨g, 0, none⟩)] W fun e W1 => e = .returned (.tuple #[]) ∧ RdAt 127 B g W1 failed ∧ Fr B [127] W W1 := by
  obtain ⟨A, c, hb, hg, hc, hC, hA, hF⟩ := h
  have hc0 : W.cell? ⟨g, 0, none⟩ = some (.slice A s.1.length c) := (blk_cell hb 0).trans rfl
  have hc1 : W.cell? ⟨g, 1, none⟩ = some (.bool s.2) := (blk_cell hb 1).trans rfl
  have hf0 := blk_frozen hb 0
  have hf1 := blk_frozen hb 1
  have HK := Aside0.mk hb
  have HG := Aside0.mk hg
  clear hb hg hc hC hA hF
  go_enter Try.func79, Try.ntmps79
  go_wp2
  go_end0
  refine ⟨rfl, RdAt.put (A' := none) (c' := 0) (s' := failed) HK.out (by decide) HG.out (Nat.le_refl _) (Kd.C_nil _ _) (fun _ ad e => by cases e) fine_failed, ?_⟩
  exact ((Fr.refl B _ W).set HK.out HG.out (by decide) 0 _).trans ((Fr.refl B _ _).set (blk_set HK.out 0 _) HG.out (by decide) 1 _)
set_option maxHeartbeats 2000000 in
set_option maxRecDepth 100000 in
theorem rd_num (B g : Nat) (s : RS) (most : Int) (W : World) (h : RdAt 127 B g W s) :
    Calls Try.prog 32 #[.pointer (some ⟨g, 0, none⟩), .int .u64 most] W fun e W1 => e = .returned (.int .u64 (rdNum most s).1) ∧ RdAt 127 B g W1 (rdNum most s).2 ∧ Fr B [127] W W1 := by
  obtain ⟨l, bad⟩ := s
  have HR := Aside0.mk h
  have HO := Aside0.mk (rd_ok B g (l, bad) W h)
  cases bad with
  | true =>
    clear h
    go_enter Try.func32, Try.ntmps32
    go_wp2_with (go_at_call 77; refine HO.out.mono ?_; rintro e w' ⟨rfl, rfl⟩)
    go_ret
    exact ⟨rfl, HR.out, Fr.refl _ _ _⟩
  | false =>
    obtain ⟨A, c, hb, hg, hc, hC, hA, hF⟩ := h
    have hc0 : W.cell? ⟨g, 0, none⟩ = some (.slice A l.length c) := (blk_cell hb 0).trans rfl
    have HK := Aside0.mk hb
    have HG := Aside0.mk hg
    cases hd : dec 0 l with
    | none =>
      have HE := Aside0.mk (show rdNum most (l, false) = (0, failed) by simp [rdNum, hd])
      have HP := Aside0.mk (lebOf_none A c l W hC hc hF hd)
      have HF := Aside0.mk (fun W1 => rd_fail B g (l, false) W1)
      clear hb hg hc hC hA hF hd
      go_enter Try.func32, Try.ntmps32
      go_wp2_with (first | (go_at_call 77; refine HO.out.mono ?_; rintro e w' ⟨rfl, rfl⟩) | (go_at_call 78; refine HP.out.mono ?_; rintro e w1 ⟨rfl, hb1⟩; have HB1 := Aside0.mk hb1; clear hb1 hc0) | (go_at_call 79; refine (HF.out _ (HR.out.below HB1.out)).mono ?_; rintro e w2 ⟨rfl, hr2, hf2⟩; have HR2 := Aside0.mk hr2; have HF2 := Aside0.mk hf2; clear hr2 hf2))
      go_ret
      rw [HE.out]
      exact ⟨rfl, HR2.out, (Fr.of_below HB1.out).trans HF2.out⟩
    | some p =>
      obtain ⟨n, k⟩ := p
      have HP := Aside0.mk (lebOf_some A c l n k W hC hc hF hd)
      obtain ⟨_, _, _, _, hk, xs, hx⟩ := dec_some l 0 n k hF.1 hd
      have hkl : k ≤ l.length := by rw [hx, List.length_append]; omega
      obtain ⟨A', hcut, hCut, hA'⟩ := cut_front A l c k hkl hc
      have HCut := Aside0.mk hCut
      have HA' := Aside0.mk hA'
      have HFine := Aside0.mk hF
      have HC := Aside0.mk hC
      have HA := Aside0.mk hA
      have hc' : l.length ≤ c := hc
      have HCl := Aside0.mk (show (l.drop k).length ≤ c - k by rw [List.length_drop]; omega)
      by_cases hmn : most < n
      · have HE := Aside0.mk (show rdNum most (l, false) = (0, failed) by simp [rdNum, hd, hmn])
        have HF := Aside0.mk (fun W1 => rd_fail B g (l, false) W1)
        clear hb hg hc hc' hC hA hF hd hk hx hkl hcut hCut hA'
        go_enter Try.func32, Try.ntmps32
        go_wp2_with (first | (go_at_call 77; refine HO.out.mono ?_; rintro e w' ⟨rfl, rfl⟩) | (go_at_call 78; refine HP.out.mono ?_; rintro e w1 ⟨rfl, hb1⟩; have HB1 := Aside0.mk hb1; clear hb1 hc0) | (go_at_call 79; refine (HF.out _ (HR.out.below HB1.out)).mono ?_; rintro e w2 ⟨rfl, hr2, hf2⟩; have HR2 := Aside0.mk hr2; have HF2 := Aside0.mk hf2; clear hr2 hf2))
        go_ret
        rw [HE.out]
        exact ⟨rfl, HR2.out, (Fr.of_below HB1.out).trans HF2.out⟩
      · have HE := Aside0.mk (show rdNum most (l, false) = (n, (l.drop k, false)) by simp [rdNum, hd, hmn])
        have HDL := Aside0.mk (show (l.drop k).length ≤ l.length by rw [List.length_drop]; omega)
        have HFd := Aside0.mk (show Fine (l.drop k, false) from fine_drop HFine.out k)
        clear hb hg hc hc' hC hA hF hd hk hx hkl hCut hA'
        generalize l.drop k = d at hcut HCut HE HCl HFd HDL
        go_enter Try.func32, Try.ntmps32
        go_wp2_with (first | (go_at_call 77; refine HO.out.mono ?_; rintro e w' ⟨rfl, rfl⟩) | (go_at_call 78; refine HP.out.mono ?_; rintro e w1 ⟨rfl, hb1⟩; have HB1 := Aside0.mk hb1; have HK1 := Aside0.mk (blk_below HK.out hb1); have hc1 : w1.cell? ⟨g, 0, none⟩ = some (.slice A l.length c) := (blk_cell HK1.out 0).trans rfl; have hf1 := blk_frozen HK1.out 0; clear hb1 hc0))
        go_ret
        rw [HE.out]
        refine ⟨rfl, RdAt.put1 (A' := A') HK1.out (by decide) HG.out HCl.out (HCut.out _ (Kd.C_below HC.out HB1.out)) (fun hp ad e => ?_) HFd.out, (Fr.of_below HB1.out).set HK.out HG.out (by decide) 0 _⟩
        obtain ⟨ad0, e0, eb⟩ := HA'.out ad e
        rw [eb]
        exact (HA.out (by have := HDL.out; omega) ad0 e0).imp id (fun h => (Fr.of_below (B := B) (T := []) HB1.out).ty h (by simp))
end Go.Proofs.Ytcegkljkmnpkaaa.Sep
