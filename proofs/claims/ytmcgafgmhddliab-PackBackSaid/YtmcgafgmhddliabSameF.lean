/- Whether fields are alike: what the reference's SameFields tells. Conditions: the bounds of the statements. -/
import Derived.Test.YtmcgafgmhddliabPackPut
import Derived.Test.YtmcgafgmhddliabPDatx2
namespace Go.Proofs.Ytmcgafgmhddliab.Sep
open Go.RowKit Go.Proofs.Ytmcgafgmhddliab.PCore Go.Proofs.Ytmcgafgmhddliab.Plain Go.Proofs.YtmcgafgmhddliabW.PrintWords Go.Proofs.YtmcgafgmhddliabW.PrintLast Go.Proofs.YtmcgafgmhddliabW.PrintMore
open Go.Proofs.Ytmcgafgmhddliab.PDat (S28 k28 z28 rd_T28 at_T28 apographref01_SameFields.l0 apographref01_SameFields.f apographref01_SameFields.calls)
open Classical in
/-- Whether rows are one. -/
noncomputable def oneF (a b : List S28) : Bool := decide (a = b)
theorem oneF_self (a : List S28) : oneF a a = true := by simp [oneF]
theorem oneF_iff (a b : List S28) : oneF a b = true ↔ a = b := by simp [oneF]
theorem drop_T (l : List S28) (i : Nat) (h : i < l.length) : l.drop i = rd_T28 l (i : Int) :: l.drop (i + 1) := by
  rw [List.drop_eq_getElem_cons h]
  simp [rd_T28, List.getD, h]
theorem alike_iff (x y : S28) : (!(x.f0 == y.f0) || (!(x.f1 == y.f1) || (!(x.f2.toList == y.f2.toList) || (!(x.f3 == y.f3))))) = true ↔ x ≠ y := by
  obtain ⟨a, b, c, d⟩ := x
  obtain ⟨a', b', c', d'⟩ := y
  have hc : c.toList = c'.toList ↔ c = c' := ⟨fun h => by
    rw [ByteArray.toList_eq, ByteArray.toList_eq] at h
    obtain ⟨⟨x⟩⟩ := c
    obtain ⟨⟨y⟩⟩ := c'
    simp only at h
    rw [h], fun h => by rw [h]⟩
  simp only [Bool.or_eq_true, Bool.not_eq_true', beq_eq_false_iff_ne, ne_eq, hc]
  constructor
  · intro h e
    injection e with e1 e2 e3 e4
    rcases h with h | h | h | h
    · exact h e1
    · exact h e2
    · exact h e3
    · exact h e4
  · intro h
    by_cases h1 : a = a'
    · by_cases h2 : b = b'
      · by_cases h3 : c = c'
        · by_cases h4 : d = d'
          · subst h1 h2 h3 h4
            exact absurd rfl h
          · exact .inr (.inr (.inr h4))
        · exact .inr (.inr (.inl h3))
      · exact .inr (.inl h2)
    · exact .inl h1
theorem sameF_loop : ∀ (d : Nat) (a b : List S28) (i : Nat), a.length = b.length → i + d = a.length → a.length ≤ 140737488355328 → Ev (fun k => apographref01_SameFields.l0 k a b a.length i) (oneF (a.drop i) (b.drop i)) := by
  intro d
  induction d with
  | zero =>
    intro a b i hab hi hn
    rw [List.drop_eq_nil_of_le (by omega), List.drop_eq_nil_of_le (by omega), oneF_self]
    refine Ev.step (f := fun _ => some true) (fun k => ?_) (Ev.now _)
    simp only [apographref01_SameFields.l0]
    rw [if_neg (by omega)]
  | succ d ih =>
    intro a b i hab hi hn
    have ew : wrap64 ((i : Int) + 1) = ((i + 1 : Nat) : Int) := by unfold wrap64; omega
    have ea := drop_T a i (by omega)
    have eb := drop_T b i (by omega)
    by_cases c : rd_T28 a i = rd_T28 b i
    · refine Ev.step (f := fun k => apographref01_SameFields.l0 k a b a.length ((i + 1 : Nat) : Int)) (fun k => ?_) ?_
      · simp only [apographref01_SameFields.l0, ew]
        rw [if_pos (by omega), if_pos (by omega), if_pos (by omega), if_pos (by omega), if_neg (by rw [alike_iff]; exact fun h => h c)]
      · have e : oneF (a.drop i) (b.drop i) = oneF (a.drop (i + 1)) (b.drop (i + 1)) := by
          rw [Bool.eq_iff_iff, oneF_iff, oneF_iff, ea, eb, List.cons.injEq]
          exact ⟨fun h => h.2, fun h => ⟨c, h⟩⟩
        rw [e]
        exact ih a b (i + 1) hab (by omega) hn
    · refine Ev.step (f := fun _ => some false) (fun k => ?_) ?_
      · simp only [apographref01_SameFields.l0]
        rw [if_pos (by omega), if_pos (by omega), if_pos (by omega), if_pos (by omega), if_pos (by rw [alike_iff]; exact c)]
      · have e : oneF (a.drop i) (b.drop i) = false := by
          rw [← Bool.not_eq_true, oneF_iff, ea, eb, List.cons.injEq]
          exact fun h => c h.1
        rw [e]
        exact Ev.now _
theorem sameF_form (a b : List S28) (hn : a.length ≤ 140737488355328) : Ev (fun k => apographref01_SameFields.f k a b) (oneF a b) := by
  by_cases hab : a.length = b.length
  · refine Ev.congr (fun k => ?_) (sameF_loop a.length a b 0 hab (by omega) hn)
    simp only [apographref01_SameFields.f]
    rw [if_pos (by omega)]
    rfl
  · have e : oneF a b = false := by
      rw [← Bool.not_eq_true, oneF_iff]
      exact fun h => hab (by rw [h])
    rw [e]
    refine Ev.congr (fun k => ?_) (Ev.now false)
    simp only [apographref01_SameFields.f]
    rw [if_neg (by omega)]
theorem sameF_calls (A0 : Option Addr) (c0 : Nat) (a : List S28) (A1 : Option Addr) (c1 : Nat) (b : List S28) (w : World) (hr0 : Kd.C k28 w A0 a.length a) (hc0 : a.length ≤ c0) (hr1 : Kd.C k28 w A1 b.length b) (hc1 : b.length ≤ c1) (hn : a.length ≤ 140737488355328) :
    Calls Try.prog 9 #[.slice A0 a.length c0, .slice A1 b.length c1] w fun e w' => e = .returned (.bool (oneF a b)) ∧ Drawn0 w w' := by
  obtain ⟨k, h⟩ := Ev.rounds (sameF_form a b hn)
  exact apographref01_SameFields.calls k A0 c0 a A1 c1 b _ w hr0 hc0 hr1 hc1 h
end Go.Proofs.Ytmcgafgmhddliab.Sep
