/- Rows of entries alike, small ones; how a pattern's prefix stands ahead: for law 31. Printed by gen19.py. Conditions: the bounds of the statements. -/
import Derived.Test.YtbnlfiklkddolaaG17
import Derived.Test.YtbnlfiklkddolaaG7
import Derived.Test.YtbnlfiklkddolaaG10
import Derived.Test.YtbnlfiklkddolaaOpenS
namespace Go.Proofs.Ytbnlfiklkddolaa.Sep
set_option linter.unusedSimpArgs false
set_option linter.unusedVariables false
open Go.RowKit Go.Proofs.Ytbnlfiklkddolaa.PCore Go.Proofs.Ytbnlfiklkddolaa.Plain Go.Proofs.YtbnlfiklkddolaaW.PrintWords Go.Proofs.YtbnlfiklkddolaaW.PrintLast Go.Proofs.YtbnlfiklkddolaaW.PrintMore
open Go.Proofs.Ytbnlfiklkddolaa.PDat (S38 k38 z38 rd_T38 at_T38 apographref09_SameEntries.f apographref09_SameEntries.l0 apographref09_SameEntries.calls apographlaw09_Light.f apographlaw09_Light.l0 apographlaw09_Light.calls)
abbrev Entry := S38
theorem en_at {l : List Entry} (i : Nat) (hi : i < l.length) : rd_T38 l (i : Int) = l[i] := by simp [rd_T38, List.getD, hi]
theorem take_en {α : Type} (l : List α) (i : Nat) (h : i < l.length) : l.take (i + 1) = l.take i ++ [l[i]] := List.take_succ_eq_append_getElem h
open Classical in
/-- Whether rows are one. -/
noncomputable def oneL {α : Type} (a b : List α) : Bool := decide (a = b)
theorem oneL_self {α : Type} (a : List α) : oneL a a = true := by simp [oneL]
theorem oneL_iff {α : Type} (a b : List α) : oneL a b = true ↔ a = b := by simp [oneL]
theorem en_drop (l : List Entry) (i : Nat) (h : i < l.length) : l.drop i = rd_T38 l (i : Int) :: l.drop (i + 1) := by rw [List.drop_eq_getElem_cons h, en_at i h]
theorem en_alike (x y : Entry) : (!((x.f0).toList == (y.f0).toList) || (!((x.f1).toList == (y.f1).toList))) = true ↔ x ≠ y := by
  obtain ⟨a, b⟩ := x
  obtain ⟨a', b'⟩ := y
  simp only [← Bool.not_and, Bool.not_eq_true', ne_eq, PDat.S38.mk.injEq]
  rw [← Bool.not_eq_true, Bool.and_eq_true]
  simp only [beq_iff_eq, text_one]
theorem sameE_loop : ∀ (d : Nat) (a b : List Entry) (i : Nat), a.length = b.length → i + d = a.length → a.length ≤ 9223372036854775807 → Ev (fun k => apographref09_SameEntries.l0 k a b a.length i) (oneL (a.drop i) (b.drop i)) := by
  intro d
  induction d with
  | zero =>
    intro a b i hab hi hn
    rw [List.drop_eq_nil_of_le (by omega), List.drop_eq_nil_of_le (by omega), oneL_self]
    refine Ev.step (f := fun _ => some true) (fun k => ?_) (Ev.now _)
    simp only [apographref09_SameEntries.l0]
    rw [if_neg (by omega)]
  | succ d ih =>
    intro a b i hab hi hn
    have ew : wrap64 ((i : Int) + 1) = ((i + 1 : Nat) : Int) := by unfold wrap64; omega
    have ea := en_drop a i (by omega)
    have eb := en_drop b i (by omega)
    by_cases c : rd_T38 a i = rd_T38 b i
    · refine Ev.step (f := fun k => apographref09_SameEntries.l0 k a b a.length ((i + 1 : Nat) : Int)) (fun k => ?_) ?_
      · simp only [apographref09_SameEntries.l0, ew]
        rw [if_pos (by omega), if_pos (by omega), if_pos (by omega), if_pos (by omega), if_neg (by rw [en_alike]; exact fun h => h c)]
      · have e : oneL (a.drop i) (b.drop i) = oneL (a.drop (i + 1)) (b.drop (i + 1)) := by
          rw [Bool.eq_iff_iff, oneL_iff, oneL_iff, ea, eb, List.cons.injEq]
          exact ⟨fun h => h.2, fun h => ⟨c, h⟩⟩
        rw [e]
        exact ih a b (i + 1) hab (by omega) hn
    · refine Ev.step (f := fun _ => some false) (fun k => ?_) ?_
      · simp only [apographref09_SameEntries.l0]
        rw [if_pos (by omega), if_pos (by omega), if_pos (by omega), if_pos (by omega), if_pos (by rw [en_alike]; exact c)]
      · have e : oneL (a.drop i) (b.drop i) = false := by
          rw [← Bool.not_eq_true, oneL_iff, ea, eb, List.cons.injEq]
          exact fun h => c h.1
        rw [e]
        exact Ev.now _
theorem sameE_form (a b : List Entry) (hn : a.length ≤ 9223372036854775807) : Ev (fun k => apographref09_SameEntries.f k a b) (oneL a b) := by
  by_cases hab : a.length = b.length
  · refine Ev.congr (fun k => ?_) (sameE_loop a.length a b 0 hab (by omega) hn)
    simp only [apographref09_SameEntries.f]
    rw [if_pos (by omega)]
    rfl
  · have e : oneL a b = false := by
      rw [← Bool.not_eq_true, oneL_iff]
      exact fun h => hab (by rw [h])
    rw [e]
    refine Ev.congr (fun k => ?_) (Ev.now false)
    simp only [apographref09_SameEntries.f]
    rw [if_neg (by omega)]
theorem sameE_calls (A0 : Option Addr) (c0 : Nat) (a : List Entry) (A1 : Option Addr) (c1 : Nat) (b : List Entry) (w : World) (hr0 : Kd.C k38 w A0 a.length a) (hc0 : a.length ≤ c0) (hr1 : Kd.C k38 w A1 b.length b) (hc1 : b.length ≤ c1) :
    Calls Try.prog 18 #[.slice A0 a.length c0, .slice A1 b.length c1] w fun e w' => e = .returned (.bool (oneL a b)) ∧ ∃ m, w' = w.drewN m := by
  obtain ⟨k, h⟩ := Ev.rounds (sameE_form a b (Kd.C_max hr0))
  exact (apographref09_SameEntries.calls k A0 c0 a A1 c1 b _ w hr0 hc0 hr1 hc1 h).mono fun e w' ⟨h1, h2⟩ => ⟨h1, h2.out⟩
/-- Whether entries, a node are small. -/
def lightX (x : Entry) : Bool := decide (x.f0.size ≤ 60) && decide (x.f1.size ≤ 250)
def lightE (l : List Entry) : Bool := l.all lightX && decide (l.length ≤ 60)
theorem all_split {α : Type} (f : α → Bool) (l : List α) (i : Nat) (h : i < l.length) : l.all f = ((l.take i).all f && (f (l[i]) && (l.drop (i + 1)).all f)) := by
  conv => lhs; rw [← List.take_append_drop i l, List.drop_eq_getElem_cons h, List.all_append, List.all_cons]
theorem light_loop : ∀ (d : Nat) (l : List Entry) (i : Nat), i + d = l.length → l.length ≤ 9223372036854775807 → (l.take i).all lightX = true → Ev (fun k => apographlaw09_Light.l0 k l l l.length i) (lightE l) := by
  intro d
  induction d with
  | zero =>
    intro l i hi hn ha
    rw [List.take_of_length_le (by omega)] at ha
    refine Ev.step (f := fun _ => some (lightE l)) (fun k => ?_) (Ev.now _)
    simp only [apographlaw09_Light.l0]
    rw [if_neg (by omega)]
    simp only [lightE, ha, Bool.true_and]
    exact congrArg some (decide_eq_decide.2 ⟨fun h => by omega, fun h => by omega⟩)
  | succ d ih =>
    intro l i hi hn ha
    have ew : wrap64 ((i : Int) + 1) = ((i + 1 : Nat) : Int) := by unfold wrap64; omega
    have hs := all_split lightX l i (by omega)
    have hx := en_at (l := l) i (by omega)
    rw [ha, Bool.true_and] at hs
    have hT : (l.take (i + 1)).all lightX = lightX (l[i]'(by omega)) := by rw [take_en l i (by omega), List.all_append, ha]; simp
    generalize l[i] = c at hx hs hT
    by_cases h0 : (c.f0.size : Int) > 60
    · have e : lightE l = false := by unfold lightE; rw [hs]; simp [lightX] <;> omega
      rw [e]
      refine Ev.step (f := fun _ => some false) (fun k => ?_) (Ev.now _)
      simp only [apographlaw09_Light.l0, hx]
      rw [if_pos (by omega), if_pos (by omega), if_pos (by omega), if_pos h0]
    · by_cases h1 : (c.f1.size : Int) > 250
      · have e : lightE l = false := by unfold lightE; rw [hs]; simp [lightX] <;> omega
        rw [e]
        refine Ev.step (f := fun _ => some false) (fun k => ?_) (Ev.now _)
        simp only [apographlaw09_Light.l0, hx]
        rw [if_pos (by omega), if_pos (by omega), if_pos (by omega), if_neg h0, if_pos h1]
      · refine Ev.step (f := fun k => apographlaw09_Light.l0 k l l l.length ((i + 1 : Nat) : Int)) (fun k => ?_) (ih l (i + 1) (by omega) hn (by rw [hT]; simp [lightX]; omega))
        simp only [apographlaw09_Light.l0, hx, ew]
        rw [if_pos (by omega), if_pos (by omega), if_pos (by omega), if_neg h0, if_neg h1]
theorem light_form (l : List Entry) (hn : l.length ≤ 9223372036854775807) : Ev (fun k => apographlaw09_Light.f k l) (lightE l) := light_loop l.length l 0 (by omega) hn (by simp)
theorem light9_calls (A : Option Addr) (c : Nat) (l : List Entry) (w : World) (h : Kd.C k38 w A l.length l) (hc : l.length ≤ c) :
    Calls Try.prog 16 #[.slice A l.length c] w fun e w' => e = .returned (.bool (lightE l)) ∧ Below w.heap.size w w' := by
  obtain ⟨k, h'⟩ := Ev.rounds (light_form l (Kd.C_max h))
  exact apographlaw09_Light.calls k A c l _ w h hc h'
/-- A pattern's prefix stands ahead of every text that it stands for. -/
theorem pref_ahead : ∀ (l : List El) (s : List Int), Mt l s → ∃ t, s = prefL l ++ t
  | [], s, _ => ⟨s, by simp [prefL]⟩
  | .one c :: l, s, h => by
    obtain ⟨d, t, rfl, h1, h2⟩ := (mt_one rfl l s).1 h
    obtain ⟨r, rfl⟩ := pref_ahead l t h2
    have e : c = d := by simpa [El.takes] using h1
    exact ⟨r, by rw [prefL, e]; rfl⟩
  | .any :: l, s, _ => ⟨s, by simp [prefL]⟩
  | .many :: l, s, _ => ⟨s, by simp [prefL]⟩
  | .set f :: l, s, _ => ⟨s, by simp [prefL]⟩
theorem mtB_mt {l : List El} {s : List Int} (h : mtB l s = true) : Mt l s := by
  by_cases h2 : Mt l s
  · exact h2
  · rw [mtB_f h2] at h; cases h
theorem pref_bytes {l : List El} (hin : ∀ x ∈ prefL l, 0 ≤ x ∧ x < 256) {s : ByteArray} (h : mtB l (bytesOf s) = true) : (prefL l).length ≤ s.size ∧ s.extract 0 (prefL l).length = strOfNums (prefL l) := by
  obtain ⟨t, ht⟩ := pref_ahead l _ (mtB_mt h)
  have hl := congrArg List.length ht
  rw [bytesOf_length, List.length_append] at hl
  refine ⟨by omega, bytesOf_one ?_⟩
  rw [bytes_str _ hin, bytes_extract', ht, List.take_append_of_le_length (by omega), List.take_length, List.drop_zero]
theorem pref_in : ∀ (l : List El), (∀ x ∈ l, 0 ≤ elC x ∧ elC x < 256) → ∀ x ∈ prefL l, 0 ≤ x ∧ x < 256
  | [], _, x, hx => by simp [prefL] at hx
  | .one c :: l, h, x, hx => by
    rw [prefL] at hx
    rcases List.mem_cons.1 hx with rfl | hx
    · exact h (.one x) (by simp)
    · exact pref_in l (fun y hy => h y (by simp [hy])) x hx
  | .any :: l, h, x, hx => by simp [prefL] at hx
  | .many :: l, h, x, hx => by simp [prefL] at hx
  | .set f :: l, h, x, hx => by simp [prefL] at hx
end Go.Proofs.Ytbnlfiklkddolaa.Sep
