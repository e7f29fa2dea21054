/- Patterns, plain: what their parts stand for; the greedy match and the rows of ends both come to it; the parts that a text is. Conditions: none. -/
import Derived.Test.YtbnlfiklkddolaaGBase
namespace Go.Proofs.Ytbnlfiklkddolaa.Plain
set_option linter.unusedVariables false
open Go.RowKit Go.Proofs.YtbnlfiklkddolaaW.PrintWords
/-- A part of a pattern: what it stands for. -/
inductive El where
  | one (c : Int)
  | any
  | many
  | set (f : List Bool)
def El.takes : El → Int → Bool
  | .one c, d => c == d
  | .any, _ => true
  | .many, _ => false
  | .set f, d => f.getD d.toNat false
def El.isMany : El → Bool
  | .many => true
  | _ => false
/-- Parts stand for bytes. -/
def Mt : List El → List Int → Prop
  | [], s => s = []
  | x :: l, s => if x.isMany = true then ∃ j, j ≤ s.length ∧ Mt l (s.drop j) else ∃ c t, s = c :: t ∧ x.takes c = true ∧ Mt l t
theorem mt_nil (s : List Int) : Mt [] s ↔ s = [] := Iff.rfl
theorem mt_many (l : List El) (s : List Int) : Mt (.many :: l) s ↔ ∃ j, j ≤ s.length ∧ Mt l (s.drop j) := by
  rw [Mt]; simp [El.isMany]
theorem mt_one {x : El} (h : x.isMany = false) (l : List El) (s : List Int) : Mt (x :: l) s ↔ ∃ c t, s = c :: t ∧ x.takes c = true ∧ Mt l t := by
  rw [Mt, if_neg (by simp [h])]
theorem mt_one_cons {x : El} (h : x.isMany = false) (l : List El) (c : Int) (t : List Int) : Mt (x :: l) (c :: t) ↔ x.takes c = true ∧ Mt l t := by
  rw [mt_one h]
  constructor
  · rintro ⟨c', t', e, h1, h2⟩
    cases e
    exact ⟨h1, h2⟩
  · rintro ⟨h1, h2⟩
    exact ⟨c, t, rfl, h1, h2⟩
theorem mt_one_nil {x : El} (h : x.isMany = false) (l : List El) : ¬ Mt (x :: l) [] := by
  rw [mt_one h]
  rintro ⟨c, t, e, _⟩
  cases e
theorem isMany_eq {x : El} (h : x.isMany = true) : x = .many := by cases x <;> simp_all [El.isMany]
theorem mt_split : ∀ (l m : List El) (s : List Int), Mt (l ++ m) s ↔ ∃ j, j ≤ s.length ∧ Mt l (s.take j) ∧ Mt m (s.drop j)
  | [], m, s => by
    simp only [List.nil_append, mt_nil]
    constructor
    · intro h; exact ⟨0, by omega, by simp, by simpa using h⟩
    · rintro ⟨j, h1, h2, h3⟩
      have : j = 0 ∨ s = [] := by
        rcases s with _ | ⟨c, s⟩
        · exact .inr rfl
        · left; rcases j with _ | j
          · rfl
          · simp at h2
      rcases this with rfl | rfl
      · simpa using h3
      · simpa using h3
  | x :: l, m, s => by
    rw [List.cons_append]
    cases hx : x.isMany with
    | true =>
      rw [isMany_eq hx]
      simp only [mt_many]
      constructor
      · rintro ⟨i, h1, h2⟩
        obtain ⟨j, h3, h4, h5⟩ := (mt_split l m _).1 h2
        rw [List.length_drop] at h3
        refine ⟨i + j, by omega, ⟨i, by rw [List.length_take]; omega, ?_⟩, ?_⟩
        · rw [List.drop_take]; rw [show i + j - i = j by omega]; exact h4
        · rw [List.drop_drop] at h5; exact h5
      · rintro ⟨j, h1, ⟨i, h2, h3⟩, h4⟩
        rw [List.length_take] at h2
        refine ⟨i, by omega, (mt_split l m _).2 ⟨j - i, by rw [List.length_drop]; omega, ?_, ?_⟩⟩
        · rw [List.drop_take] at h3; exact h3
        · rw [List.drop_drop, show i + (j - i) = j by omega]; exact h4
    | false =>
      constructor
      · intro h
        obtain ⟨c, t, rfl, h1, h2⟩ := (mt_one hx _ _).1 h
        obtain ⟨j, h3, h4, h5⟩ := (mt_split l m _).1 h2
        exact ⟨j + 1, by simpa using h3, by rw [List.take_succ_cons, mt_one_cons hx]; exact ⟨h1, h4⟩, by simpa using h5⟩
      · rintro ⟨j, h1, h2, h3⟩
        obtain ⟨c, t, e, h4, h5⟩ := (mt_one hx _ _).1 h2
        rcases s with _ | ⟨d, s⟩
        · simp at e
        rcases j with _ | j
        · simp at e
        rw [List.take_succ_cons] at e
        cases e
        rw [mt_one_cons hx]
        exact ⟨h4, (mt_split l m _).2 ⟨j, by simpa using h1, h5, by simpa using h3⟩⟩
theorem mt_seg : ∀ (g m : List El) (s : List Int), (∀ x ∈ g, x.isMany = false) → Mt (g ++ m) s → g.length ≤ s.length ∧ Mt m (s.drop g.length)
  | [], m, s, _, h => ⟨by simp, by simpa using h⟩
  | x :: g, m, s, hg, h => by
    rw [List.cons_append] at h
    obtain ⟨c, t, rfl, h1, h2⟩ := (mt_one (hg x (by simp)) _ _).1 h
    obtain ⟨h3, h4⟩ := mt_seg g m t (fun y hy => hg y (by simp [hy])) h2
    exact ⟨by simpa using h3, by simpa using h4⟩
theorem mt_absorb {R : List El} {s : List Int} {a b : Nat} (h : Mt (.many :: R) (s.drop a)) (hb : b ≤ a) (ha : a ≤ s.length) : Mt (.many :: R) (s.drop b) := by
  rw [mt_many] at h ⊢
  obtain ⟨j, h1, h2⟩ := h
  rw [List.length_drop] at h1
  refine ⟨a - b + j, by rw [List.length_drop]; omega, ?_⟩
  rw [List.drop_drop] at h2 ⊢
  rw [show b + (a - b + j) = a + j by omega]
  exact h2
/-! The greedy match. -/
/-- The last star's other ends. -/
def Later (l : List El) (s : List Int) (st : Option Nat) (fr : Nat) : Prop := ∃ k, st = some k ∧ ∃ j, fr < j ∧ j ≤ s.length ∧ Mt (l.drop (k + 1)) (s.drop j)
structure Gr (l : List El) (s : List Int) (at' i : Nat) (st : Option Nat) (fr : Nat) : Prop where
  ha : at' ≤ l.length
  hi : i ≤ s.length
  hf : fr ≤ i
  eq : Mt l s ↔ (Mt (l.drop at') (s.drop i) ∨ Later l s st fr)
  hs : ∀ k, st = some k → k < at' ∧ i = fr + (at' - (k + 1)) ∧ ∀ q, k < q → q < at' → (l.getD q .any).isMany = false
theorem gr_start (l : List El) (s : List Int) : Gr l s 0 0 none 0 := by
  refine ⟨Nat.zero_le _, Nat.zero_le _, Nat.le_refl _, ?_, fun k h => by cases h⟩
  simp [Later]
theorem drop_at {l : List El} {a : Nat} (h : a < l.length) : l.drop a = l.getD a .any :: l.drop (a + 1) := by
  rw [List.drop_eq_getElem_cons h]
  simp [List.getD, h]
theorem drop_c {s : List Int} {i : Nat} (h : i < s.length) : s.drop i = s.getD i 0 :: s.drop (i + 1) := by
  rw [List.drop_eq_getElem_cons h]
  simp [List.getD, h]
theorem gr_many {l : List El} {s : List Int} {a i : Nat} {st : Option Nat} {fr : Nat} (h : Gr l s a i st fr) (hl : a < l.length) (hm : (l.getD a .any).isMany = true) : Gr l s (a + 1) i (some a) i := by
  refine ⟨hl, h.hi, Nat.le_refl _, ?_, fun k e => by cases e; exact ⟨by omega, by omega, fun q h1 h2 => by omega⟩⟩
  have hd := drop_at hl
  rw [isMany_eq hm] at hd
  have h1 : Mt l s ↔ Mt (l.drop a) (s.drop i) := by
    rw [h.eq]
    constructor
    · rintro (h2 | ⟨k, rfl, j, h3, h4, h5⟩)
      · exact h2
      · obtain ⟨h6, h7, h8⟩ := h.hs k rfl
        have e : l.drop (k + 1) = (l.drop (k + 1)).take (a - (k + 1)) ++ l.drop a := by
          conv => lhs; rw [← List.take_append_drop (a - (k + 1)) (l.drop (k + 1)), List.drop_drop, show k + 1 + (a - (k + 1)) = a by omega]
        rw [e] at h5
        have hlen : ((l.drop (k + 1)).take (a - (k + 1))).length = a - (k + 1) := by rw [List.length_take, List.length_drop]; omega
        obtain ⟨h9, h10⟩ := mt_seg _ _ _ (fun x hx => by
          obtain ⟨q, hq, rfl⟩ := List.mem_iff_getElem.1 hx
          rw [hlen] at hq
          have := h8 (k + 1 + q) (by omega) (by omega)
          rw [List.getElem_take, List.getElem_drop]
          simpa [List.getD, show k + 1 + q < l.length by omega] using this) h5
        rw [hlen] at h9 h10
        rw [List.length_drop] at h9
        rw [List.drop_drop, hd] at h10
        rw [hd]
        exact mt_absorb h10 (by omega) (by omega)
    · exact .inl
  rw [h1, hd, mt_many]
  constructor
  · rintro ⟨j, h2, h3⟩
    rw [List.length_drop] at h2
    rw [List.drop_drop] at h3
    rcases Nat.eq_zero_or_pos j with rfl | hj
    · exact .inl (by simpa using h3)
    · exact .inr ⟨a, rfl, i + j, by omega, by omega, h3⟩
  · rintro (h2 | ⟨k, e, j, h2, h3, h4⟩)
    · exact ⟨0, by omega, by simpa using h2⟩
    · cases e
      refine ⟨j - i, by rw [List.length_drop]; omega, ?_⟩
      rw [List.drop_drop, show i + (j - i) = j by omega]
      exact h4
theorem gr_one {l : List El} {s : List Int} {a i : Nat} {st : Option Nat} {fr : Nat} (h : Gr l s a i st fr) (hl : a < l.length) (hi : i < s.length) (hm : (l.getD a .any).isMany = false) (ht : (l.getD a .any).takes (s.getD i 0) = true) : Gr l s (a + 1) (i + 1) st fr := by
  refine ⟨hl, hi, by have := h.hf; omega, ?_, fun k e => ?_⟩
  · rw [h.eq, drop_at hl, drop_c hi, mt_one_cons hm]
    rw [ht]
    simp
  · obtain ⟨h1, h2, h3⟩ := h.hs k e
    refine ⟨by omega, by omega, fun q h4 h5 => ?_⟩
    rcases Nat.lt_or_eq_of_le (Nat.lt_succ_iff.1 h5) with h6 | rfl
    · exact h3 q h4 h6
    · exact hm
/-- No byte for the next part, or no part for the next byte. -/
theorem gr_stuck {l : List El} {s : List Int} {a i : Nat} (hq : a < l.length ∨ i < s.length) (hm : a < l.length → (l.getD a .any).isMany = false) (ht : a < l.length → i < s.length → (l.getD a .any).takes (s.getD i 0) = false) : ¬ Mt (l.drop a) (s.drop i) := by
  by_cases hl : a < l.length
  · rw [drop_at hl]
    by_cases hi : i < s.length
    · rw [drop_c hi, mt_one_cons (hm hl), ht hl hi]
      simp
    · rw [List.drop_eq_nil_of_le (show s.length ≤ i by omega)]
      exact mt_one_nil (hm hl) _
  · have hi : i < s.length := by omega
    rw [List.drop_eq_nil_of_le (by omega), drop_c hi]
    simp [mt_nil]
theorem gr_fail {l : List El} {s : List Int} {a i : Nat} {st : Option Nat} {fr : Nat} (h : Gr l s a i st fr) (hn : ¬ Mt (l.drop a) (s.drop i)) (hf : st = none ∨ s.length ≤ fr) : ¬ Mt l s := by
  rw [h.eq]
  rintro (h1 | ⟨k, e, j, h2, h3, h4⟩)
  · exact hn h1
  · rcases hf with hf | hf
    · rw [hf] at e; cases e
    · omega
theorem gr_back {l : List El} {s : List Int} {a i k : Nat} {fr : Nat} (h : Gr l s a i (some k) fr) (hn : ¬ Mt (l.drop a) (s.drop i)) (hf : fr < s.length) : Gr l s (k + 1) (fr + 1) (some k) (fr + 1) := by
  obtain ⟨h1, h2, h3⟩ := h.hs k rfl
  refine ⟨by have := h.ha; omega, hf, Nat.le_refl _, ?_, fun k' e => by cases e; exact ⟨by omega, by omega, fun q h1 h2 => by omega⟩⟩
  rw [h.eq]
  constructor
  · rintro (h4 | ⟨k', e, j, h5, h6, h7⟩)
    · exact absurd h4 hn
    · cases e
      rcases Nat.lt_or_eq_of_le (show fr + 1 ≤ j from h5) with h8 | rfl
      · exact .inr ⟨k, rfl, j, h8, h6, h7⟩
      · exact .inl h7
  · rintro (h4 | ⟨k', e, j, h5, h6, h7⟩)
    · exact .inr ⟨k, rfl, fr + 1, by omega, hf, h4⟩
    · cases e
      exact .inr ⟨k, rfl, j, by omega, h6, h7⟩
theorem gr_end {l : List El} {s : List Int} {a i : Nat} {st : Option Nat} {fr : Nat} (h : Gr l s a i st fr) (hl : l.length ≤ a) (hi : s.length ≤ i) : Mt l s := by
  rw [h.eq, List.drop_eq_nil_of_le hl, List.drop_eq_nil_of_le hi]
  exact .inl rfl
/-- The measure. -/
def stN : Option Nat → Nat
  | some k => k + 1
  | none => 0
def grM (L S at' fr : Nat) (st : Option Nat) : Nat := ((L - stN st) * (S + 1) + (S - fr)) * (L + 1) + (L - at')
theorem gr_m1 {l : List El} {s : List Int} {a i : Nat} {st : Option Nat} {fr : Nat} (h : Gr l s a i st fr) (hl : a < l.length) : grM l.length s.length (a + 1) i (some a) < grM l.length s.length a fr st := by
  unfold grM
  have h1 : (l.length - (a + 1)) * (s.length + 1) ≤ (l.length - stN st) * (s.length + 1) := by
    apply Nat.mul_le_mul_right
    have : stN st ≤ a := by
      cases st with
      | none => exact Nat.zero_le _
      | some k => exact (h.hs k rfl).1
    omega
  have h2 := h.hf
  have h3 : ((l.length - (a + 1)) * (s.length + 1) + (s.length - i)) * (l.length + 1) ≤ ((l.length - stN st) * (s.length + 1) + (s.length - fr)) * (l.length + 1) := Nat.mul_le_mul_right _ (by omega)
  rw [show stN (some a) = a + 1 from rfl]
  omega
theorem gr_m2 (L S a fr : Nat) (st : Option Nat) (hl : a < L) : grM L S (a + 1) fr st < grM L S a fr st := by
  unfold grM
  omega
theorem gr_m3 (L S a fr k : Nat) (hk : k < L) (hf : fr < S) (ha : a ≤ L) : grM L S (k + 1) (fr + 1) (some k) < grM L S a fr (some k) := by
  unfold grM
  rw [show stN (some k) = k + 1 from rfl]
  have e : (L - (k + 1)) * (S + 1) + (S - fr) = ((L - (k + 1)) * (S + 1) + (S - (fr + 1))) + 1 := by omega
  rw [e, Nat.add_mul _ 1]
  omega
/-! The other way: rows of ends. -/
theorem mt_snoc_many (p : List El) (s : List Int) (i : Nat) (hi : i ≤ s.length) : Mt (p ++ [.many]) (s.take i) ↔ Mt p (s.take i) ∨ (0 < i ∧ Mt (p ++ [.many]) (s.take (i - 1))) := by
  have hA : ∀ k, k ≤ s.length → (Mt (p ++ [.many]) (s.take k) ↔ ∃ j, j ≤ k ∧ Mt p (s.take j)) := by
    intro k hk
    rw [mt_split]
    constructor
    · rintro ⟨j, h1, h2, h3⟩
      rw [List.length_take] at h1
      rw [List.take_take, show min j k = j by omega] at h2
      exact ⟨j, by omega, h2⟩
    · rintro ⟨j, h1, h2⟩
      refine ⟨j, by rw [List.length_take]; omega, by rw [List.take_take, show min j k = j by omega]; exact h2, ?_⟩
      rw [mt_many]
      exact ⟨_, Nat.le_refl _, by rw [mt_nil, List.drop_length]⟩
  rw [hA i hi, hA (i - 1) (by omega)]
  constructor
  · rintro ⟨j, h1, h2⟩
    rcases Nat.lt_or_eq_of_le h1 with h | rfl
    · exact .inr ⟨by omega, j, by omega, h2⟩
    · exact .inl h2
  · rintro (h | ⟨h1, j, h2, h3⟩)
    · exact ⟨i, Nat.le_refl _, h⟩
    · exact ⟨j, by omega, h3⟩
theorem mt_snoc_one (p : List El) (x : El) (hx : x.isMany = false) (s : List Int) (i : Nat) (hi : i ≤ s.length) : Mt (p ++ [x]) (s.take i) ↔ 0 < i ∧ Mt p (s.take (i - 1)) ∧ x.takes (s.getD (i - 1) 0) = true := by
  rw [mt_split]
  constructor
  · rintro ⟨j, h1, h2, h3⟩
    rw [List.length_take] at h1
    obtain ⟨c, t, e, h4, h5⟩ := (mt_one hx _ _).1 h3
    rw [mt_nil] at h5
    subst h5
    have hlen := congrArg List.length e
    simp only [List.length_drop, List.length_take, List.length_cons, List.length_nil] at hlen
    have hj : j = i - 1 := by omega
    subst hj
    refine ⟨by omega, by rw [List.take_take, show min (i - 1) i = i - 1 by omega] at h2; exact h2, ?_⟩
    rw [List.drop_take, drop_c (show i - 1 < s.length by omega), show i - (i - 1) = 0 + 1 by omega, List.take_succ_cons] at e
    cases e
    exact h4
  · rintro ⟨h1, h2, h3⟩
    refine ⟨i - 1, by rw [List.length_take]; omega, by rw [List.take_take, show min (i - 1) i = i - 1 by omega]; exact h2, ?_⟩
    rw [List.drop_take, drop_c (show i - 1 < s.length by omega), show i - (i - 1) = 0 + 1 by omega, List.take_succ_cons, mt_one_cons hx]
    exact ⟨h3, by simp [mt_nil]⟩
theorem mt_take0 (s : List Int) (i : Nat) (hi : i ≤ s.length) : Mt [] (s.take i) ↔ i = 0 := by
  rw [mt_nil]
  rcases i with _ | i
  · simp
  · rcases s with _ | ⟨c, s⟩
    · simp at hi
    · simp
/-! The parts that a text is. -/
/-- The next byte; false: there is none. -/
def nxt : List Int → (Int × Bool) × List Int
  | [] => ((0, false), [])
  | c :: l => ((c, true), l)
/-- A byte, maybe behind one that says that it stands for itself. -/
def pln : List Int → (Int × Bool) × List Int
  | [] => ((0, false), [])
  | c :: l => if c = 92 then nxt l else ((c, true), l)
/-- Set k places from lo on. -/
def setUp (f : List Bool) (lo : Nat) : Nat → List Bool
  | 0 => f
  | k + 1 => (setUp f lo k).set (lo + k) true
theorem setUp_length (f : List Bool) (lo : Nat) : ∀ k, (setUp f lo k).length = f.length
  | 0 => rfl
  | k + 1 => by rw [setUp, List.length_set, setUp_length f lo k]
theorem setUp_get (f : List Bool) (lo c : Nat) (hc : c < f.length) : ∀ k, (setUp f lo k).getD c false = (f.getD c false || (decide (lo ≤ c) && decide (c < lo + k)))
  | 0 => by
    rw [setUp]
    by_cases h : lo ≤ c
    · rw [decide_eq_false (show ¬ c < lo + 0 by omega)]; simp
    · rw [decide_eq_false h]; simp
  | k + 1 => by
    rw [setUp]
    by_cases e : lo + k = c
    · subst e
      rw [List.getD_eq_getElem?_getD, List.getElem?_set_self (by rw [setUp_length]; exact hc), Option.getD_some, decide_eq_true (show lo ≤ lo + k by omega), decide_eq_true (show lo + k < lo + (k + 1) by omega)]
      simp
    · have ih := setUp_get f lo c hc k
      rw [List.getD_eq_getElem?_getD] at ih ⊢
      rw [List.getElem?_set_ne e, ih]
      congr 2
      exact decide_eq_decide.2 ⟨fun h => by omega, fun h => by omega⟩
/-- The first i places turned. -/
def notUp (f : List Bool) (i : Nat) : List Bool := (f.take i).map (!·) ++ f.drop i
theorem notUp_zero (f : List Bool) : notUp f 0 = f := by simp [notUp]
theorem notUp_all (f : List Bool) (i : Nat) (h : f.length ≤ i) : notUp f i = f.map (!·) := by simp [notUp, List.take_of_length_le h, List.drop_eq_nil_of_le h]
theorem notUp_length (f : List Bool) (i : Nat) : (notUp f i).length = f.length := by simp [notUp]; omega
theorem notUp_get (f : List Bool) (i : Nat) (h : i < f.length) : (notUp f i)[i]? = some (f.getD i false) := by
  have hl : ((f.take i).map (!·)).length = i := by rw [List.length_map, List.length_take]; omega
  rw [notUp, List.getElem?_append_right (by omega), hl, Nat.sub_self, List.getElem?_drop]
  simp [List.getD, List.getElem?_eq_getElem h]
theorem notUp_succ (f : List Bool) (i : Nat) (h : i < f.length) : notUp f (i + 1) = (notUp f i).set i (!(f.getD i false)) := by
  have hl : ((f.take i).map (!·)).length = i := by rw [List.length_map, List.length_take]; omega
  rw [notUp, notUp, List.set_append_right _ _ (by omega), hl, Nat.sub_self, List.take_succ_eq_append_getElem h, List.map_append, List.append_assoc]
  congr 1
  rw [List.drop_eq_getElem_cons h, List.set_cons_zero]
  simp [List.getD, List.getElem?_eq_getElem h]
/-- Whether a dash is next that stands between two bytes. -/
def dash : List Int → Bool
  | c :: d :: _ => c == 45 && d != 93
  | _ => false
def zeroF : List Bool := List.replicate 256 false
/-- A set, behind its bracket and what turns it round; no more than k rounds; n parts are there. -/
def clsL (nt : Bool) : Nat → List Bool → Nat → List Int → Option (List Bool × List Int)
  | 0, _, _, _ => none
  | k + 1, f, n, r =>
    if r.head? = some 93 then (if n = 0 then none else some (if nt = true then f.map (!·) else f, r.tail))
    else if (pln r).1.2 = false then none
    else if dash (pln r).2 = true then
      (if (pln (pln r).2.tail).1.2 = false ∨ (pln (pln r).2.tail).1.1 < (pln r).1.1 then none
        else clsL nt k (setUp f (pln r).1.1.toNat ((pln (pln r).2.tail).1.1 - (pln r).1.1 + 1).toNat) (n + 1) (pln (pln r).2.tail).2)
    else clsL nt k (setUp f (pln r).1.1.toNat 1) (n + 1) (pln r).2
def cls (r : List Int) : Option (List Bool × List Int) := if r.head? = some 33 then clsL true (r.length + 1) zeroF 0 r.tail else clsL false (r.length + 1) zeroF 0 r
/-- A part. -/
def prt : List Int → Option (El × List Int)
  | [] => none
  | c :: l => if c = 42 then some (.many, l) else if c = 63 then some (.any, l) else if c = 91 then (cls l).map (fun p => (.set p.1, p.2)) else if c = 93 then none else if c = 92 then (if (nxt l).1.2 = true then some (.one (nxt l).1.1, (nxt l).2) else none) else some (.one c, l)
/-- The parts that a text is; no more than k. -/
def patL : Nat → List Int → Option (List El)
  | 0, _ => none
  | k + 1, r => if r = [] then some [] else match prt r with
    | none => none
    | some (x, r') => (patL k r').map (x :: ·)
def pat (r : List Int) : Option (List El) := patL (r.length + 1) r
theorem nxt_len (r : List Int) : (nxt r).2.length ≤ r.length ∧ ((nxt r).1.2 = true → (nxt r).2.length < r.length) := by
  cases r with
  | nil => simp [nxt]
  | cons c l => simp [nxt]
theorem pln_len (r : List Int) : (pln r).2.length ≤ r.length ∧ ((pln r).1.2 = true → (pln r).2.length < r.length) := by
  cases r with
  | nil => simp [pln]
  | cons c l =>
    have h := nxt_len l
    simp only [pln]
    split
    · refine ⟨by simp only [List.length_cons]; omega, fun h2 => ?_⟩
      have := h.2 h2
      simp only [List.length_cons]; omega
    · simp
theorem pln_byte {r : List Int} (h : ∀ x ∈ r, 0 ≤ x ∧ x < 256) : 0 ≤ (pln r).1.1 ∧ (pln r).1.1 < 256 := by
  cases r with
  | nil => simp [pln]
  | cons c l =>
    simp only [pln]
    split
    · cases l with
      | nil => simp [nxt]
      | cons d l => simpa [nxt] using h d (by simp)
    · simpa using h c (by simp)
theorem pln_sub {r : List Int} (x : Int) (h : x ∈ (pln r).2) : x ∈ r := by
  cases r with
  | nil => simp [pln] at h
  | cons c l =>
    simp only [pln] at h
    split at h
    · cases l with
      | nil => simp [nxt] at h
      | cons d l => simp only [nxt] at h; simp [h]
    · simp only at h; simp [h]
/-- More rounds than bytes change nothing. -/
theorem clsL_len (nt : Bool) : ∀ (k : Nat) (f : List Bool) (n : Nat) (r : List Int) (p : List Bool × List Int), clsL nt k f n r = some p → p.2.length < r.length ∧ p.1.length = f.length
  | 0, f, n, r, p, h => by simp [clsL] at h
  | k + 1, f, n, r, p, h => by
    have h0 := pln_len r
    rw [clsL] at h
    split at h
    · rename_i h1
      split at h
      · cases h
      · cases h
        cases r with
        | nil => cases h1
        | cons c l => refine ⟨by simp, ?_⟩; cases nt <;> simp
    · split at h
      · cases h
      · rename_i h2
        have h2' : (pln r).1.2 = true := by simpa using h2
        have h2'' := h0.2 h2'
        have h3 := pln_len (pln r).2.tail
        have h4 : (pln r).2.tail.length ≤ (pln r).2.length := by rw [List.length_tail]; omega
        split at h
        · split at h
          · cases h
          · have := clsL_len nt k _ _ _ _ h
            rw [setUp_length] at this
            exact ⟨by omega, this.2⟩
        · have := clsL_len nt k _ _ _ _ h
          rw [setUp_length] at this
          exact ⟨by omega, this.2⟩
theorem cls_len {r : List Int} {p : List Bool × List Int} (h : cls r = some p) : p.2.length < r.length ∧ p.1.length = 256 := by
  unfold cls at h
  split at h
  · have := clsL_len _ _ _ _ _ _ h
    rw [List.length_tail] at this
    exact ⟨by omega, by rw [this.2]; exact List.length_replicate⟩
  · have := clsL_len _ _ _ _ _ _ h
    exact ⟨this.1, by rw [this.2]; exact List.length_replicate⟩
theorem prt_len {r : List Int} {x : El} {r' : List Int} (h : prt r = some (x, r')) : r'.length < r.length := by
  cases r with
  | nil => cases h
  | cons c l =>
    have hn := nxt_len l
    simp only [prt] at h
    split at h
    · cases h; simp
    split at h
    · cases h; simp
    split at h
    · simp only [Option.map_eq_some_iff] at h
      obtain ⟨p, hp, e⟩ := h
      cases e
      have := (cls_len hp).1
      simp only [List.length_cons]; omega
    split at h
    · cases h
    split at h
    · split at h
      · cases h
        simp only [List.length_cons]; omega
      · cases h
    · cases h; simp
end Go.Proofs.Ytbnlfiklkddolaa.Plain
