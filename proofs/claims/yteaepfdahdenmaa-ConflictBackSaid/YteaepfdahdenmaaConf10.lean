/- Clashes alike, small; what Put and Of tell, for the laws. Conditions: the bounds of the statements. -/
import Derived.Test.YteaepfdahdenmaaConf5
import Derived.Test.YteaepfdahdenmaaConf8
import Derived.Test.YteaepfdahdenmaaConf9
import Derived.Test.YteaepfdahdenmaaOpenS
namespace Go.Proofs.Yteaepfdahdenmaa.Sep
set_option linter.unusedSimpArgs false
set_option linter.unusedVariables false
open Go.RowKit Go.Proofs.Yteaepfdahdenmaa.PCore Go.Proofs.Yteaepfdahdenmaa.Plain Go.Proofs.YteaepfdahdenmaaW.PrintWords Go.Proofs.YteaepfdahdenmaaW.PrintLast Go.Proofs.YteaepfdahdenmaaW.PrintMore
open Go.Proofs.Yteaepfdahdenmaa.PDat (S44 k44 S46 k46 z46 rd_T46 at_T46 apographref09_SameClashes.l0 apographref09_SameClashes.f apographref09_SameClashes.calls apographlaw13_Light.l0 apographlaw13_Light.f apographlaw13_Light.calls)
theorem text_one {s t : ByteArray} : s.toList = t.toList ↔ s = t := ⟨fun h => by
  rw [ByteArray.toList_eq, ByteArray.toList_eq] at h
  obtain ⟨⟨x⟩⟩ := s
  obtain ⟨⟨y⟩⟩ := t
  simp only at h
  rw [h], fun h => by rw [h]⟩
open Classical in
/-- Whether rows are one. -/
noncomputable def oneL (a b : List Clash) : Bool := decide (a = b)
theorem oneL_self (a : List Clash) : oneL a a = true := by simp [oneL]
theorem oneL_iff (a b : List Clash) : oneL a b = true ↔ a = b := by simp [oneL]
theorem cl_alike (x y : Clash) : (!(((x).f0).toList == ((y).f0).toList) || ((!((x).f1.f0 == (y).f1.f0) || (!(((x).f1.f1).toList == ((y).f1.f1).toList))) || ((!((x).f2.f0 == (y).f2.f0) || (!(((x).f2.f1).toList == ((y).f2.f1).toList))) || ((!((x).f3.f0 == (y).f3.f0) || (!(((x).f3.f1).toList == ((y).f3.f1).toList))))))) = true ↔ x ≠ y := by
  obtain ⟨a, ⟨b1, b2⟩, ⟨c1, c2⟩, ⟨d1, d2⟩⟩ := x
  obtain ⟨a', ⟨b1', b2'⟩, ⟨c1', c2'⟩, ⟨d1', d2'⟩⟩ := y
  simp only [← Bool.not_and, Bool.not_eq_true', ne_eq, PDat.S46.mk.injEq, PDat.S44.mk.injEq]
  rw [← Bool.not_eq_true, Bool.and_eq_true, Bool.and_eq_true, Bool.and_eq_true, Bool.and_eq_true, Bool.and_eq_true, Bool.and_eq_true]
  simp only [beq_iff_eq, text_one]
theorem sameL_loop : ∀ (d : Nat) (a b : List Clash) (i : Nat), a.length = b.length → i + d = a.length → a.length ≤ 140737488355328 → Ev (fun k => apographref09_SameClashes.l0 k a b a.length i) (oneL (a.drop i) (b.drop i)) := by
  intro d
  induction d with
  | zero =>
    intro a b i hab hi hn
    rw [List.drop_eq_nil_of_le (by omega), List.drop_eq_nil_of_le (by omega), oneL_self]
    refine Ev.step (f := fun _ => some true) (fun k => ?_) (Ev.now _)
    simp only [apographref09_SameClashes.l0]
    rw [if_neg (by omega)]
  | succ d ih =>
    intro a b i hab hi hn
    have ew : wrap64 ((i : Int) + 1) = ((i + 1 : Nat) : Int) := by unfold wrap64; omega
    have ea := cl_drop a i (by omega)
    have eb := cl_drop b i (by omega)
    by_cases c : rd_T46 a i = rd_T46 b i
    · refine Ev.step (f := fun k => apographref09_SameClashes.l0 k a b a.length ((i + 1 : Nat) : Int)) (fun k => ?_) ?_
      · simp only [apographref09_SameClashes.l0, ew]
        rw [if_pos (by omega), if_pos (by omega), if_pos (by omega), if_pos (by omega), if_neg (by rw [cl_alike]; exact fun h => h c)]
      · have e : oneL (a.drop i) (b.drop i) = oneL (a.drop (i + 1)) (b.drop (i + 1)) := by
          rw [Bool.eq_iff_iff, oneL_iff, oneL_iff, ea, eb, List.cons.injEq]
          exact ⟨fun h => h.2, fun h => ⟨c, h⟩⟩
        rw [e]
        exact ih a b (i + 1) hab (by omega) hn
    · refine Ev.step (f := fun _ => some false) (fun k => ?_) ?_
      · simp only [apographref09_SameClashes.l0]
        rw [if_pos (by omega), if_pos (by omega), if_pos (by omega), if_pos (by omega), if_pos (by rw [cl_alike]; exact c)]
      · have e : oneL (a.drop i) (b.drop i) = false := by
          rw [← Bool.not_eq_true, oneL_iff, ea, eb, List.cons.injEq]
          exact fun h => c h.1
        rw [e]
        exact Ev.now _
theorem sameL_form (a b : List Clash) (hn : a.length ≤ 140737488355328) : Ev (fun k => apographref09_SameClashes.f k a b) (oneL a b) := by
  by_cases hab : a.length = b.length
  · refine Ev.congr (fun k => ?_) (sameL_loop a.length a b 0 hab (by omega) hn)
    simp only [apographref09_SameClashes.f]
    rw [if_pos (by omega)]
    rfl
  · have e : oneL a b = false := by
      rw [← Bool.not_eq_true, oneL_iff]
      exact fun h => hab (by rw [h])
    rw [e]
    refine Ev.congr (fun k => ?_) (Ev.now false)
    simp only [apographref09_SameClashes.f]
    rw [if_neg (by omega)]
theorem sameL_calls (A0 : Option Addr) (c0 : Nat) (a : List Clash) (A1 : Option Addr) (c1 : Nat) (b : List Clash) (w : World) (hr0 : Kd.C k46 w A0 a.length a) (hc0 : a.length ≤ c0) (hr1 : Kd.C k46 w A1 b.length b) (hc1 : b.length ≤ c1) (hn : a.length ≤ 140737488355328) :
    Calls Try.prog 13 #[.slice A0 a.length c0, .slice A1 b.length c1] w fun e w' => e = .returned (.bool (oneL a b)) ∧ Below w.heap.size w w' := by
  obtain ⟨k, h⟩ := Ev.rounds (sameL_form a b hn)
  exact (apographref09_SameClashes.calls k A0 c0 a A1 c1 b _ w hr0 hc0 hr1 hc1 h).mono fun e w' ⟨h1, h2⟩ => ⟨h1, by first | exact h2 | exact h2.below⟩
/-- Whether a clash is small. -/
def lightC (c : Clash) : Bool := decide (c.f0.size ≤ 60) && (decide (c.f1.f1.size ≤ 250) && (decide (c.f2.f1.size ≤ 250) && decide (c.f3.f1.size ≤ 250)))
def lightL (l : List Clash) : Bool := l.all lightC && decide (l.length ≤ 20)
theorem lightC_one {l : List Clash} (i : Nat) (hi : i < l.length) : (l.take (i + 1)).all lightC = ((l.take i).all lightC && lightC (rd_T46 l (i : Int))) := by
  rw [cl_at i hi, take_one l i hi, List.all_append]
  simp
theorem light_no {l : List Clash} (i : Nat) (hi : i < l.length) (h : lightC (rd_T46 l (i : Int)) = false) : lightL l = false := by
  rw [← Bool.not_eq_true]
  intro hl
  simp only [lightL, Bool.and_eq_true, List.all_eq_true] at hl
  have := hl.1 _ (List.getElem_mem hi)
  rw [← cl_at i hi, h] at this
  cases this
theorem light_loop : ∀ (d : Nat) (l : List Clash) (i : Nat), i + d = l.length → l.length ≤ 9223372036854775807 → (l.take i).all lightC = true → Ev (fun k => apographlaw13_Light.l0 k l l l.length i) (lightL l) := by
  intro d
  induction d with
  | zero =>
    intro l i hi hn ha
    rw [List.take_of_length_le (by omega)] at ha
    refine Ev.step (f := fun _ => some (lightL l)) (fun k => ?_) (Ev.now _)
    simp only [apographlaw13_Light.l0]
    rw [if_neg (by omega)]
    simp only [lightL, ha, Bool.true_and]
    congr 2
    exact propext ⟨fun h => by omega, fun h => by omega⟩
  | succ d ih =>
    intro l i hi hn ha
    have ew : wrap64 ((i : Int) + 1) = ((i + 1 : Nat) : Int) := by unfold wrap64; omega
    have hT := lightC_one i (show i < l.length by omega)
    have hno := light_no (l := l) i (by omega)
    generalize hc : rd_T46 l (i : Int) = c at hT hno
    rw [ha, Bool.true_and] at hT
    by_cases h0 : (c.f0.size : Int) > 60
    · rw [hno (by simp [lightC]; omega)]
      refine Ev.step (f := fun _ => some false) (fun k => ?_) (Ev.now _)
      simp only [apographlaw13_Light.l0, hc]
      rw [if_pos (by omega), if_pos (by omega), if_pos (by omega), if_pos h0]
    · by_cases h1 : (c.f1.f1.size : Int) > 250
      · rw [hno (by simp [lightC]; omega)]
        refine Ev.step (f := fun _ => some false) (fun k => ?_) (Ev.now _)
        simp only [apographlaw13_Light.l0, hc]
        rw [if_pos (by omega), if_pos (by omega), if_pos (by omega), if_neg h0, if_pos h1]
      · by_cases h2 : (c.f2.f1.size : Int) > 250
        · rw [hno (by simp [lightC]; omega)]
          refine Ev.step (f := fun _ => some false) (fun k => ?_) (Ev.now _)
          simp only [apographlaw13_Light.l0, hc]
          rw [if_pos (by omega), if_pos (by omega), if_pos (by omega), if_neg h0, if_neg h1, if_pos h2]
        · by_cases h3 : (c.f3.f1.size : Int) > 250
          · rw [hno (by simp [lightC]; omega)]
            refine Ev.step (f := fun _ => some false) (fun k => ?_) (Ev.now _)
            simp only [apographlaw13_Light.l0, hc]
            rw [if_pos (by omega), if_pos (by omega), if_pos (by omega), if_neg h0, if_neg h1, if_neg h2, if_pos h3]
          · refine Ev.step (f := fun k => apographlaw13_Light.l0 k l l l.length ((i + 1 : Nat) : Int)) (fun k => ?_) (ih l (i + 1) (by omega) hn (by rw [hT]; simp [lightC]; omega))
            simp only [apographlaw13_Light.l0, hc, ew]
            rw [if_pos (by omega), if_pos (by omega), if_pos (by omega), if_neg h0, if_neg h1, if_neg h2, if_neg h3]
theorem light_calls (A : Option Addr) (n : Nat) (l : List Clash) (w : World) (hC : Kd.C k46 w A l.length l) (hc : l.length ≤ n) (hn : l.length ≤ 9223372036854775807) :
    Calls Try.prog 6 #[.slice A l.length n] w fun e w' => e = .returned (.bool (lightL l)) ∧ Below w.heap.size w w' := by
  obtain ⟨k, h⟩ := Ev.rounds (show Ev (fun k => apographlaw13_Light.f k l) (lightL l) from light_loop l.length l 0 (by omega) hn rfl)
  exact (apographlaw13_Light.calls k A n l _ w hC hc h).mono fun e w' ⟨h1, h2⟩ => ⟨h1, by first | exact h2 | exact h2.below⟩
theorem encS_in (s : Side) : ∀ x ∈ encS s, 0 ≤ x ∧ x < 256 := by
  intro x hx
  rcases List.mem_append.1 hx with h | h
  · exact encB_in _ x h
  · exact encT_in _ x h
theorem encL_in (l : List Clash) : ∀ x ∈ encL l, 0 ≤ x ∧ x < 256 := by
  intro x hx
  rcases List.mem_append.1 hx with h | h
  · exact enc_in (by omega) x h
  · simp only [encCls, List.mem_flatten, List.mem_map] at h
    obtain ⟨_, ⟨c, _, rfl⟩, h⟩ := h
    simp only [encCl, sidesEnc, List.mem_append, List.not_mem_nil, false_or] at h
    rcases h with h | ((h | h) | h)
    · exact encT_in _ x h
    · exact encS_in _ x h
    · exact encS_in _ x h
    · exact encS_in _ x h
theorem putL_in (l : List Clash) : ∀ x ∈ putL l, 0 ≤ x ∧ x < 256 := by
  intro x hx
  unfold putL at hx
  split at hx
  · exact encL_in l x hx
  · simp at hx
theorem putL_fine {l : List Clash} : Fine (putL l, false) := by
  refine ⟨putL_in l, ?_, fun h => by simp at h⟩
  show (putL l).length ≤ 1000000
  unfold putL
  split
  · rename_i h
    obtain ⟨_, h2, h3⟩ := putE_zero h
    have h4 := encCls_len h3
    have h5 := enc_len_u64 (n := (l.length : Int)) (by omega) (by omega)
    simp only [encL, List.length_append]
    omega
  · simp
theorem ofK_put {l : List Clash} (h : putE l = 0) : ofK (putL l) = (l, 0) := by
  unfold putL
  rw [if_pos h]
  exact ofK_enc l h
theorem ofK_cases {b : List Int} (hF : Fine (b, false)) : ofK b = ([], 20) ∨ ∃ m, ofK b = (m, 0) ∧ putE m = 0 ∧ putL m = b ∧ m.length ≤ 1000 := by
  by_cases h : (ofK b).2 = 0
  · obtain ⟨h1, h2⟩ := ofK_bytes hF h
    refine .inr ⟨(ofK b).1, Prod.ext rfl h, h2, ?_, ofK_len hF⟩
    unfold putL
    rw [if_pos h2, h1]
  · refine .inl ?_
    unfold ofK at h ⊢
    split at h
    · exact absurd rfl h
    · rename_i hc
      rw [if_neg hc]
theorem putB (A : Option Addr) (n : Nat) (l : List Clash) (W : World) (hC : Kd.C k46 W A l.length l) (hn : l.length ≤ 9223372036854775807) :
    Calls Try.prog 7 #[.slice A l.length n] W fun e W1 => ∃ B m, e = .returned (.tuple #[.slice B (putL l).length m, .int .i64 (putE l)]) ∧ (putL l).length ≤ m ∧ Kd.C (Kd.int .u8) W1 B (putL l).length (putL l) ∧ Below W.heap.size W W1 :=
  (put13_calls A n l W hC hn).mono fun e W1 ⟨v, he, hR, hb⟩ => by
    obtain ⟨B, m, hv, hm, hC1⟩ := Kd.R_reads hR
    subst hv
    exact ⟨B, m, he, hm, hC1, hb⟩
theorem putRB (A : Option Addr) (n : Nat) (l : List Clash) (W : World) (hC : Kd.C k46 W A l.length l) (hn : l.length ≤ 9223372036854775807) :
    Calls Try.prog 8 #[.slice A l.length n] W fun e W1 => ∃ B m, e = .returned (.tuple #[.slice B (putL l).length m, .int .i64 (putE l)]) ∧ (putL l).length ≤ m ∧ Kd.C (Kd.int .u8) W1 B (putL l).length (putL l) ∧ Below W.heap.size W W1 :=
  (refPut13_calls A n l W hC hn).mono fun e W1 ⟨v, he, hR, hb⟩ => by
    obtain ⟨B, m, hv, hm, hC1⟩ := Kd.R_reads hR
    subst hv
    exact ⟨B, m, he, hm, hC1, hb⟩
theorem ofB (A : Option Addr) (n : Nat) (b : List Int) (m : List Clash) (r : Int) (W : World) (hC : Kd.C (Kd.int .u8) W A b.length b) (hF : Fine (b, false)) (h : ofK b = (m, r)) :
    Calls Try.prog 9 #[.slice A b.length n] W fun e W1 => ∃ B k, e = .returned (.tuple #[.slice B m.length k, .int .i64 r]) ∧ m.length ≤ k ∧ Kd.C k46 W1 B m.length m ∧ Below W.heap.size W W1 := by
  have := of13_calls A n b W hC hF
  rw [h] at this
  exact this.mono fun e W1 ⟨v, he, hR, hb⟩ => by
    obtain ⟨B, k, hv, hm, hC1⟩ := Kd.R_reads hR
    subst hv
    exact ⟨B, k, he, hm, hC1, hb⟩
theorem ofRB (A : Option Addr) (n : Nat) (b : List Int) (m : List Clash) (r : Int) (W : World) (hC : Kd.C (Kd.int .u8) W A b.length b) (hc : b.length ≤ n) (hF : Fine (b, false)) (h : ofK b = (m, r)) :
    Calls Try.prog 10 #[.slice A b.length n] W fun e W1 => ∃ B k, e = .returned (.tuple #[.slice B m.length k, .int .i64 r]) ∧ m.length ≤ k ∧ Kd.C k46 W1 B m.length m ∧ Below W.heap.size W W1 := by
  have := refOf13_calls A n b W hC hc hF
  rw [h] at this
  exact this.mono fun e W1 ⟨v, he, hR, hb⟩ => by
    obtain ⟨B, k, hv, hm, hC1⟩ := Kd.R_reads hR
    subst hv
    exact ⟨B, k, he, hm, hC1, hb⟩
theorem of_wf_u8 {n : Int} (h : (Lit.int .u8 n).wf = true) : 0 ≤ n ∧ n < 256 := by
  simp [Lit.wf, IntKind.min, IntKind.max, IntKind.signed, IntKind.bits] at h
  omega
end Go.Proofs.Yteaepfdahdenmaa.Sep
