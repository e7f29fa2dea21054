/- Rows alike, small rows: what is printed in closed form. Printed by gen5.py. Conditions: the bounds of the statements. · The walks of slices.EqualFunc over commits and of reply.Same. Printed by gen6.py. Conditions: the bounds of the statements. -/
import Derived.Test.YtcegkljkmnpkaaaRqB
import Derived.Test.YtcegkljkmnpkaaaOpenS
namespace Go.Proofs.Ytcegkljkmnpkaaa.Sep
set_option linter.unusedSimpArgs false
set_option linter.unusedVariables false
open Go.RowKit Go.Proofs.Ytcegkljkmnpkaaa.PCore Go.Proofs.Ytcegkljkmnpkaaa.Plain Go.Proofs.YtcegkljkmnpkaaaW.PrintWords Go.Proofs.YtcegkljkmnpkaaaW.PrintLast Go.Proofs.YtcegkljkmnpkaaaW.PrintMore
open Go.Proofs.Ytcegkljkmnpkaaa.PDat (S53 S47 S57 S59 S62 k53 k47 k57 k59 k62 rd_T53 rd_T47 rd_T59 rd_T62 apographref09_SameEntries.f apographref09_SameEntries.l0 apographref09_SameEntries.calls apographref09_SameChanges.f apographref09_SameChanges.l0 apographref09_SameChanges.calls apographref09_SameClashes.f apographref09_SameClashes.l0 apographref09_SameClashes.calls apographref14_SameRefs.f apographref14_SameRefs.l0 apographref14_SameRefs.calls api_Entry.f api_Entry.l0 api_Entry.calls api_Change.f api_Change.l0 api_Change.calls api_Clash.f api_Clash.l0 api_Clash.calls api_Ref.f api_Ref.l0 api_Ref.calls apographref01_SameNumbers.f apographref01_SameNumbers.l0 apographref14_SameCommit.f apographref14_SameCommit.calls slices_Equal_uint64_uint64.f slices_Equal_uint64_uint64.l0 object_Same.f object_Same.calls apographlaw09_Light.f apographlaw09_Light.l0 apographlaw09_Light.calls apographlaw13_Light.f apographlaw13_Light.l0 apographlaw13_Light.calls apographlaw14_Light.f apographlaw14_Light.calls apographlaw16_Few.f apographlaw16_Few.l0 apographlaw16_Few.calls)
theorem text_one {s t : ByteArray} : s.toList = t.toList ↔ s = t := ⟨fun h => by
  rw [ByteArray.toList_eq, ByteArray.toList_eq] at h
  obtain ⟨⟨x⟩⟩ := s
  obtain ⟨⟨y⟩⟩ := t
  simp only at h
  rw [h], fun h => by rw [h]⟩
open Classical in
/-- Whether rows are one. -/
noncomputable def oneL {α : Type} (a b : List α) : Bool := decide (a = b)
theorem oneL_self {α : Type} (a : List α) : oneL a a = true := by simp [oneL]
theorem oneL_iff {α : Type} (a b : List α) : oneL a b = true ↔ a = b := by simp [oneL]
section
variable {α : Type} (rd : List α → Int → α) (hrd : ∀ (l : List α) (i : Nat) (h : i < l.length), rd l (i : Int) = l[i])
include hrd
theorem rd_drop (l : List α) (i : Nat) (h : i < l.length) : l.drop i = rd l (i : Int) :: l.drop (i + 1) := by rw [List.drop_eq_getElem_cons h, hrd l i h]
theorem same_loop (ne : α → α → Bool) (hne : ∀ x y, ne x y = true ↔ x ≠ y) (g : Nat → List α → List α → Int → Int → Option Bool)
    (hg : ∀ k a b n i, g (k + 1) a b n i = if i < n then (if 0 ≤ i then (if i < (a.length : Int) then (if i < (b.length : Int) then (if ne (rd a i) (rd b i) = true then (some false) else (g k a b n (wrap64 (i + 1)))) else (none)) else (none)) else (none)) else (some true)) :
    ∀ (d : Nat) (a b : List α) (i : Nat), a.length = b.length → i + d = a.length → a.length ≤ 9223372036854775807 → Ev (fun k => g k a b a.length i) (oneL (a.drop i) (b.drop i)) := by
  intro d
  induction d with
  | zero =>
    intro a b i hab hi hn
    rw [List.drop_eq_nil_of_le (by omega), List.drop_eq_nil_of_le (by omega), oneL_self]
    refine Ev.step (f := fun _ => some true) (fun k => ?_) (Ev.now _)
    rw [hg, if_neg (by omega)]
  | succ d ih =>
    intro a b i hab hi hn
    have ew : wrap64 ((i : Int) + 1) = ((i + 1 : Nat) : Int) := by unfold wrap64; omega
    have ea := rd_drop rd hrd a i (by omega)
    have eb := rd_drop rd hrd b i (by omega)
    by_cases c : rd a i = rd b i
    · refine Ev.step (f := fun k => g k a b a.length ((i + 1 : Nat) : Int)) (fun k => ?_) ?_
      · rw [hg, ew, if_pos (by omega), if_pos (by omega), if_pos (by omega), if_pos (by omega), if_neg (by rw [hne]; exact fun h => h c)]
      · have e : oneL (a.drop i) (b.drop i) = oneL (a.drop (i + 1)) (b.drop (i + 1)) := by
          rw [Bool.eq_iff_iff, oneL_iff, oneL_iff, ea, eb, List.cons.injEq]
          exact ⟨fun h => h.2, fun h => ⟨c, h⟩⟩
        rw [e]
        exact ih a b (i + 1) hab (by omega) hn
    · refine Ev.step (f := fun _ => some false) (fun k => ?_) ?_
      · rw [hg, if_pos (by omega), if_pos (by omega), if_pos (by omega), if_pos (by omega), if_pos (by rw [hne]; exact c)]
      · have e : oneL (a.drop i) (b.drop i) = false := by
          rw [← Bool.not_eq_true, oneL_iff, ea, eb, List.cons.injEq]
          exact fun h => c h.1
        rw [e]
        exact Ev.now _
theorem same_form (ne : α → α → Bool) (hne : ∀ x y, ne x y = true ↔ x ≠ y) (g : Nat → List α → List α → Int → Int → Option Bool) (f : Nat → List α → List α → Option Bool)
    (hg : ∀ k a b n i, g (k + 1) a b n i = if i < n then (if 0 ≤ i then (if i < (a.length : Int) then (if i < (b.length : Int) then (if ne (rd a i) (rd b i) = true then (some false) else (g k a b n (wrap64 (i + 1)))) else (none)) else (none)) else (none)) else (some true))
    (hf : ∀ k a b, f k a b = if (a.length : Int) = (b.length : Int) then (g k a b (a.length : Int) 0) else (some false)) (a b : List α) (hn : a.length ≤ 9223372036854775807) : Ev (fun k => f k a b) (oneL a b) := by
  by_cases hab : a.length = b.length
  · refine Ev.congr (fun k => ?_) (same_loop rd hrd ne hne g hg a.length a b 0 hab (by omega) hn)
    rw [hf, if_pos (by omega)]
    rfl
  · have e : oneL a b = false := by
      rw [← Bool.not_eq_true, oneL_iff]
      exact fun h => hab (by rw [h])
    rw [e]
    refine Ev.congr (fun k => ?_) (Ev.now false)
    rw [hf, if_neg (by omega)]
theorem all_loop (bad : α → Bool) (m : Nat) (g : Nat → List α → List α → Int → Int → Option Bool)
    (hb : ∀ k x a n i, i < n → 0 ≤ i → i < (a.length : Int) → bad (rd a i) = true → g (k + 1) x a n i = some false)
    (ho : ∀ k x a n i, i < n → 0 ≤ i → i < (a.length : Int) → bad (rd a i) = false → g (k + 1) x a n i = g k x a n (wrap64 (i + 1)))
    (he : ∀ k x a n i, ¬ i < n → g (k + 1) x a n i = some (decide ((x.length : Int) ≤ m))) :
    ∀ (d : Nat) (l : List α) (i : Nat), i + d = l.length → l.length ≤ 9223372036854775807 → (l.take i).all (fun x => !bad x) = true → Ev (fun k => g k l l l.length i) (l.all (fun x => !bad x) && decide (l.length ≤ m)) := by
  intro d
  induction d with
  | zero =>
    intro l i hi hn ha
    rw [List.take_of_length_le (by omega)] at ha
    refine Ev.step (f := fun _ => some (l.all (fun x => !bad x) && decide (l.length ≤ m))) (fun k => ?_) (Ev.now _)
    rw [he _ _ _ _ _ (by omega), ha, Bool.true_and]
    exact congrArg some (decide_eq_decide.2 ⟨fun h => by omega, fun h => by omega⟩)
  | succ d ih =>
    intro l i hi hn ha
    have ew : wrap64 ((i : Int) + 1) = ((i + 1 : Nat) : Int) := by unfold wrap64; omega
    have hx := hrd l i (by omega)
    cases hc : bad (rd l (i : Int)) with
    | true =>
      have e : l.all (fun x => !bad x) = false := by
        rw [← Bool.not_eq_true, List.all_eq_true]
        intro h
        have := h (l[i]'(by omega)) (List.getElem_mem _)
        rw [← hx, hc] at this
        cases this
      rw [e, Bool.false_and]
      refine Ev.step (f := fun _ => some false) (fun k => ?_) (Ev.now _)
      exact hb _ _ _ _ _ (by omega) (by omega) (by omega) hc
    | false =>
      refine Ev.step (f := fun k => g k l l l.length ((i + 1 : Nat) : Int)) (fun k => ?_) (ih l (i + 1) (by omega) hn (by
        rw [take_one l i (by omega), List.all_append, ha, ← hx]; simp [hc]))
      rw [ho _ _ _ _ _ (by omega) (by omega) (by omega) hc, ew]
end
theorem nums_loop (g : Nat → List Int → List Int → Int → Int → Option Bool)
    (hg : ∀ k a b n i, g (k + 1) a b n i = if i < n then (if 0 ≤ i then (if i < (a.length : Int) then (if i < (b.length : Int) then (if (rd a i) = (rd b i) then (g k a b n (wrap64 (i + 1))) else (some false)) else (none)) else (none)) else (none)) else (some true)) :
    ∀ (d : Nat) (a b : List Int) (i : Nat), a.length = b.length → i + d = a.length → a.length ≤ 9223372036854775807 → Ev (fun k => g k a b a.length i) (decide (a.drop i = b.drop i)) := by
  intro d
  induction d with
  | zero =>
    intro a b i hab hi hn
    rw [List.drop_eq_nil_of_le (by omega), List.drop_eq_nil_of_le (by omega)]
    refine Ev.step (f := fun _ => some true) (fun k => ?_) (Ev.now _)
    rw [hg, if_neg (by omega)]
  | succ d ih =>
    intro a b i hab hi hn
    have ew : wrap64 ((i : Int) + 1) = ((i + 1 : Nat) : Int) := by unfold wrap64; omega
    have ea := drop_rd a i (by omega)
    have eb := drop_rd b i (by omega)
    by_cases c : rd a i = rd b i
    · refine Ev.step (f := fun k => g k a b a.length ((i + 1 : Nat) : Int)) (fun k => ?_) ?_
      · rw [hg, ew, if_pos (by omega), if_pos (by omega), if_pos (by omega), if_pos (by omega), if_pos c]
      · have e : decide (a.drop i = b.drop i) = decide (a.drop (i + 1) = b.drop (i + 1)) := by
          rw [decide_eq_decide, ea, eb, List.cons.injEq]
          exact ⟨fun h => h.2, fun h => ⟨c, h⟩⟩
        rw [e]
        exact ih a b (i + 1) hab (by omega) hn
    · refine Ev.step (f := fun _ => some false) (fun k => ?_) ?_
      · rw [hg, if_pos (by omega), if_pos (by omega), if_pos (by omega), if_pos (by omega), if_neg c]
      · have e : decide (a.drop i = b.drop i) = false := by
          rw [decide_eq_false_iff_not, ea, eb, List.cons.injEq]
          exact fun h => c h.1
        rw [e]
        exact Ev.now _
theorem nums_form (g : Nat → List Int → List Int → Int → Int → Option Bool) (f : Nat → List Int → List Int → Option Bool)
    (hg : ∀ k a b n i, g (k + 1) a b n i = if i < n then (if 0 ≤ i then (if i < (a.length : Int) then (if i < (b.length : Int) then (if (rd a i) = (rd b i) then (g k a b n (wrap64 (i + 1))) else (some false)) else (none)) else (none)) else (none)) else (some true))
    (hf : ∀ k a b, f k a b = if (a.length : Int) = (b.length : Int) then (g k a b (a.length : Int) 0) else (some false)) (a b : List Int) (hn : a.length ≤ 9223372036854775807) : Ev (fun k => f k a b) (decide (a = b)) := by
  by_cases hab : a.length = b.length
  · refine Ev.congr (fun k => ?_) (nums_loop g hg a.length a b 0 hab (by omega) hn)
    rw [hf, if_pos (by omega)]
    rfl
  · have e : decide (a = b) = false := decide_eq_false (fun h => hab (by rw [h]))
    rw [e]
    refine Ev.congr (fun k => ?_) (Ev.now false)
    rw [hf, if_neg (by omega)]
/-- Whether commits are alike. -/
def sameCo (c d : Com) : Bool := decide (c.id = d.id) && (decide (c.ps = d.ps) && (decide (c.gen = d.gen) && (decide (c.root = d.root) && (c.text.toList == d.text.toList))))
theorem sameCo_iff (c d : Com) : sameCo c d = true ↔ c = d := by
  obtain ⟨a, b, g, r, t⟩ := c
  obtain ⟨a', b', g', r', t'⟩ := d
  simp only [sameCo, Bool.and_eq_true, decide_eq_true_eq, beq_iff_eq, text_one, Com.mk.injEq]
theorem same_bind (g : Nat → List Int → List Int → Option Bool) (c d : Com) (h : Ev (fun k => g k c.ps d.ps) (decide (c.ps = d.ps))) :
    Ev (fun k => if c.id = d.id then ((g k c.ps d.ps).bind fun t => (if t = true then (if c.gen = d.gen then (if c.root = d.root then (some (c.text.toList == d.text.toList)) else (some false)) else (some false)) else (some false))) else (some false)) (sameCo c d) := by
  by_cases h1 : c.id = d.id
  · refine Ev.congr (fun k => if_pos h1) ?_
    refine Ev.bind h ?_
    refine Ev.congr (f := fun _ => some (sameCo c d)) (fun k => ?_) (Ev.now _)
    by_cases h2 : c.ps = d.ps
    · rw [if_pos (decide_eq_true h2)]
      by_cases h3 : c.gen = d.gen
      · rw [if_pos h3]
        by_cases h4 : c.root = d.root
        · rw [if_pos h4]
          simp [sameCo, h1, h2, h3, h4]
        · rw [if_neg h4]
          simp [sameCo, h4]
      · rw [if_neg h3]
        simp [sameCo, h3]
    · rw [if_neg (by simp [h2])]
      simp [sameCo, h2]
  · refine Ev.congr (f := fun _ => some (sameCo c d)) (fun k => ?_) (Ev.now _)
    rw [if_neg h1]
    simp [sameCo, h1]
theorem same14_calls (A : Option Addr) (n : Nat) (c : Com) (A' : Option Addr) (n' : Nat) (d : Com) (w : World) (h1 : Kd.C (Kd.int .u64) w A c.ps.length c.ps) (h2 : c.ps.length ≤ n) (h3 : Kd.C (Kd.int .u64) w A' d.ps.length d.ps) (h4 : d.ps.length ≤ n') :
    Calls Try.prog 24 #[.agg #[.int .u64 c.id, .slice A c.ps.length n, .int .u64 c.gen, .int .u64 c.root, .string c.text], .agg #[.int .u64 d.id, .slice A' d.ps.length n', .int .u64 d.gen, .int .u64 d.root, .string d.text]] w fun e w' => e = .returned (.bool (sameCo c d)) ∧ Below w.heap.size w w' := by
  obtain ⟨k, h⟩ := Ev.rounds (same_bind slices_Equal_uint64_uint64.f c d (nums_form slices_Equal_uint64_uint64.l0 slices_Equal_uint64_uint64.f (fun k a b n i => rfl) (fun k a b => rfl) c.ps d.ps (Kd.C_max h1)))
  exact object_Same.calls k _ A n c.ps _ _ _ _ A' n' d.ps _ _ _ _ w h1 h2 h3 h4 h
theorem rsame14_calls (A : Option Addr) (n : Nat) (c : Com) (A' : Option Addr) (n' : Nat) (d : Com) (w : World) (h1 : Kd.C (Kd.int .u64) w A c.ps.length c.ps) (h2 : c.ps.length ≤ n) (h3 : Kd.C (Kd.int .u64) w A' d.ps.length d.ps) (h4 : d.ps.length ≤ n') :
    Calls Try.prog 25 #[.agg #[.int .u64 c.id, .slice A c.ps.length n, .int .u64 c.gen, .int .u64 c.root, .string c.text], .agg #[.int .u64 d.id, .slice A' d.ps.length n', .int .u64 d.gen, .int .u64 d.root, .string d.text]] w fun e w' => e = .returned (.bool (sameCo c d)) ∧ Below w.heap.size w w' := by
  obtain ⟨k, h⟩ := Ev.rounds (same_bind apographref01_SameNumbers.f c d (nums_form apographref01_SameNumbers.l0 apographref01_SameNumbers.f (fun k a b n i => rfl) (fun k a b => rfl) c.ps d.ps (Kd.C_max h1)))
  exact apographref14_SameCommit.calls k _ A n c.ps _ _ _ _ A' n' d.ps _ _ _ _ w h1 h2 h3 h4 h
def lightCo (c : Com) : Bool := decide (c.ps.length ≤ 5) && decide (c.text.size ≤ 100)
theorem light14_calls (A : Option Addr) (n : Nat) (c : Com) (w : World) (h1 : Kd.C (Kd.int .u64) w A c.ps.length c.ps) (h2 : c.ps.length ≤ n) :
    Calls Try.prog 15 #[.agg #[.int .u64 c.id, .slice A c.ps.length n, .int .u64 c.gen, .int .u64 c.root, .string c.text]] w fun e w' => e = .returned (.bool (lightCo c)) ∧ Below w.heap.size w w' := by
  refine apographlaw14_Light.calls _ A n c.ps _ _ _ _ w h1 h2 ?_
  unfold apographlaw14_Light.f lightCo
  by_cases h : c.ps.length ≤ 5
  · rw [if_pos (by omega)]
    simp only [h, decide_true, Bool.true_and]
    congr 2
    exact propext ⟨fun h => by omega, fun h => by omega⟩
  · rw [if_neg (by omega)]
    simp [h]
def neEntry (x y : Entry) : Bool := (!((x.f0).toList == (y.f0).toList)) || ((!((x.f1).toList == (y.f1).toList)))
theorem neEntry_iff (x y : Entry) : neEntry x y = true ↔ x ≠ y := by
  obtain ⟨a, b⟩ := x
  obtain ⟨a', b'⟩ := y
  simp only [neEntry, ← Bool.not_and, Bool.not_eq_true', ne_eq, PDat.S53.mk.injEq]
  rw [← Bool.not_eq_true, Bool.and_eq_true]
  simp only [beq_iff_eq, text_one, Bool.and_eq_true]
theorem eqEntry_calls (A0 : Option Addr) (c0 : Nat) (a : List Entry) (A1 : Option Addr) (c1 : Nat) (b : List Entry) (w : World) (hr0 : Kd.C k53 w A0 a.length a) (hc0 : a.length ≤ c0) (hr1 : Kd.C k53 w A1 b.length b) (hc1 : b.length ≤ c1) :
    Calls Try.prog 19 #[.slice A0 a.length c0, .slice A1 b.length c1] w fun e w' => e = .returned (.bool (oneL a b)) ∧ Below w.heap.size w w' := by
  obtain ⟨k, h⟩ := Ev.rounds (same_form rd_T53 (fun l i h => en_at i h) neEntry neEntry_iff api_Entry.l0 api_Entry.f (fun k a b n i => rfl) (fun k a b => rfl) a b (Kd.C_max hr0))
  exact (api_Entry.calls k A0 c0 a A1 c1 b _ w hr0 hc0 hr1 hc1 h).mono fun e w' ⟨h1, h2⟩ => ⟨h1, by obtain ⟨m, rfl⟩ := h2.out; exact pw_below_drewN (Below.refl _ _) m⟩
theorem reqEntry_calls (A0 : Option Addr) (c0 : Nat) (a : List Entry) (A1 : Option Addr) (c1 : Nat) (b : List Entry) (w : World) (hr0 : Kd.C k53 w A0 a.length a) (hc0 : a.length ≤ c0) (hr1 : Kd.C k53 w A1 b.length b) (hc1 : b.length ≤ c1) :
    Calls Try.prog 26 #[.slice A0 a.length c0, .slice A1 b.length c1] w fun e w' => e = .returned (.bool (oneL a b)) ∧ Below w.heap.size w w' := by
  obtain ⟨k, h⟩ := Ev.rounds (same_form rd_T53 (fun l i h => en_at i h) neEntry neEntry_iff apographref09_SameEntries.l0 apographref09_SameEntries.f (fun k a b n i => rfl) (fun k a b => rfl) a b (Kd.C_max hr0))
  exact (apographref09_SameEntries.calls k A0 c0 a A1 c1 b _ w hr0 hc0 hr1 hc1 h).mono fun e w' ⟨h1, h2⟩ => ⟨h1, by obtain ⟨m, rfl⟩ := h2.out; exact pw_below_drewN (Below.refl _ _) m⟩
def neChange (x y : Change) : Bool := (!((x.f0).toList == (y.f0).toList)) || ((!(x.f1 == y.f1)) || ((!((x.f2).toList == (y.f2).toList)) || ((!(x.f3 == y.f3)) || ((!((x.f4).toList == (y.f4).toList))))))
theorem neChange_iff (x y : Change) : neChange x y = true ↔ x ≠ y := by
  obtain ⟨a, b, c, d, e⟩ := x
  obtain ⟨a', b', c', d', e'⟩ := y
  simp only [neChange, ← Bool.not_and, Bool.not_eq_true', ne_eq, PDat.S47.mk.injEq]
  rw [← Bool.not_eq_true, Bool.and_eq_true]
  simp only [beq_iff_eq, text_one, Bool.and_eq_true]
theorem eqChange_calls (A0 : Option Addr) (c0 : Nat) (a : List Change) (A1 : Option Addr) (c1 : Nat) (b : List Change) (w : World) (hr0 : Kd.C k47 w A0 a.length a) (hc0 : a.length ≤ c0) (hr1 : Kd.C k47 w A1 b.length b) (hc1 : b.length ≤ c1) :
    Calls Try.prog 20 #[.slice A0 a.length c0, .slice A1 b.length c1] w fun e w' => e = .returned (.bool (oneL a b)) ∧ Below w.heap.size w w' := by
  obtain ⟨k, h⟩ := Ev.rounds (same_form rd_T47 (fun l i h => ch_at i h) neChange neChange_iff api_Change.l0 api_Change.f (fun k a b n i => rfl) (fun k a b => rfl) a b (Kd.C_max hr0))
  exact (api_Change.calls k A0 c0 a A1 c1 b _ w hr0 hc0 hr1 hc1 h).mono fun e w' ⟨h1, h2⟩ => ⟨h1, by obtain ⟨m, rfl⟩ := h2.out; exact pw_below_drewN (Below.refl _ _) m⟩
theorem reqChange_calls (A0 : Option Addr) (c0 : Nat) (a : List Change) (A1 : Option Addr) (c1 : Nat) (b : List Change) (w : World) (hr0 : Kd.C k47 w A0 a.length a) (hc0 : a.length ≤ c0) (hr1 : Kd.C k47 w A1 b.length b) (hc1 : b.length ≤ c1) :
    Calls Try.prog 27 #[.slice A0 a.length c0, .slice A1 b.length c1] w fun e w' => e = .returned (.bool (oneL a b)) ∧ Below w.heap.size w w' := by
  obtain ⟨k, h⟩ := Ev.rounds (same_form rd_T47 (fun l i h => ch_at i h) neChange neChange_iff apographref09_SameChanges.l0 apographref09_SameChanges.f (fun k a b n i => rfl) (fun k a b => rfl) a b (Kd.C_max hr0))
  exact (apographref09_SameChanges.calls k A0 c0 a A1 c1 b _ w hr0 hc0 hr1 hc1 h).mono fun e w' ⟨h1, h2⟩ => ⟨h1, by obtain ⟨m, rfl⟩ := h2.out; exact pw_below_drewN (Below.refl _ _) m⟩
def neClash (x y : Clash) : Bool := (!((x.f0).toList == (y.f0).toList)) || (((!(x.f1.f0 == y.f1.f0)) || (!((x.f1.f1).toList == (y.f1.f1).toList))) || (((!(x.f2.f0 == y.f2.f0)) || (!((x.f2.f1).toList == (y.f2.f1).toList))) || ((!(x.f3.f0 == y.f3.f0)) || (!((x.f3.f1).toList == (y.f3.f1).toList)))))
theorem neClash_iff (x y : Clash) : neClash x y = true ↔ x ≠ y := by
  obtain ⟨a, ⟨b, c⟩, ⟨d, e⟩, ⟨f, g⟩⟩ := x
  obtain ⟨a', ⟨b', c'⟩, ⟨d', e'⟩, ⟨f', g'⟩⟩ := y
  simp only [neClash, ← Bool.not_and, Bool.not_eq_true', ne_eq, PDat.S59.mk.injEq, PDat.S57.mk.injEq]
  rw [← Bool.not_eq_true, Bool.and_eq_true]
  simp only [beq_iff_eq, text_one, Bool.and_eq_true]
theorem eqClash_calls (A0 : Option Addr) (c0 : Nat) (a : List Clash) (A1 : Option Addr) (c1 : Nat) (b : List Clash) (w : World) (hr0 : Kd.C k59 w A0 a.length a) (hc0 : a.length ≤ c0) (hr1 : Kd.C k59 w A1 b.length b) (hc1 : b.length ≤ c1) :
    Calls Try.prog 21 #[.slice A0 a.length c0, .slice A1 b.length c1] w fun e w' => e = .returned (.bool (oneL a b)) ∧ Below w.heap.size w w' := by
  obtain ⟨k, h⟩ := Ev.rounds (same_form rd_T59 (fun l i h => cl_at i h) neClash neClash_iff api_Clash.l0 api_Clash.f (fun k a b n i => rfl) (fun k a b => rfl) a b (Kd.C_max hr0))
  exact (api_Clash.calls k A0 c0 a A1 c1 b _ w hr0 hc0 hr1 hc1 h).mono fun e w' ⟨h1, h2⟩ => ⟨h1, by obtain ⟨m, rfl⟩ := h2.out; exact pw_below_drewN (Below.refl _ _) m⟩
theorem reqClash_calls (A0 : Option Addr) (c0 : Nat) (a : List Clash) (A1 : Option Addr) (c1 : Nat) (b : List Clash) (w : World) (hr0 : Kd.C k59 w A0 a.length a) (hc0 : a.length ≤ c0) (hr1 : Kd.C k59 w A1 b.length b) (hc1 : b.length ≤ c1) :
    Calls Try.prog 28 #[.slice A0 a.length c0, .slice A1 b.length c1] w fun e w' => e = .returned (.bool (oneL a b)) ∧ Below w.heap.size w w' := by
  obtain ⟨k, h⟩ := Ev.rounds (same_form rd_T59 (fun l i h => cl_at i h) neClash neClash_iff apographref09_SameClashes.l0 apographref09_SameClashes.f (fun k a b n i => rfl) (fun k a b => rfl) a b (Kd.C_max hr0))
  exact (apographref09_SameClashes.calls k A0 c0 a A1 c1 b _ w hr0 hc0 hr1 hc1 h).mono fun e w' ⟨h1, h2⟩ => ⟨h1, by obtain ⟨m, rfl⟩ := h2.out; exact pw_below_drewN (Below.refl _ _) m⟩
def neRef (x y : Ref) : Bool := (!((x.f0).toList == (y.f0).toList)) || ((!(x.f1 == y.f1)) || ((!(x.f2 == y.f2))))
theorem neRef_iff (x y : Ref) : neRef x y = true ↔ x ≠ y := by
  obtain ⟨a, b, c⟩ := x
  obtain ⟨a', b', c'⟩ := y
  simp only [neRef, ← Bool.not_and, Bool.not_eq_true', ne_eq, PDat.S62.mk.injEq]
  rw [← Bool.not_eq_true, Bool.and_eq_true]
  simp only [beq_iff_eq, text_one, Bool.and_eq_true]
theorem eqRef_calls (A0 : Option Addr) (c0 : Nat) (a : List Ref) (A1 : Option Addr) (c1 : Nat) (b : List Ref) (w : World) (hr0 : Kd.C k62 w A0 a.length a) (hc0 : a.length ≤ c0) (hr1 : Kd.C k62 w A1 b.length b) (hc1 : b.length ≤ c1) :
    Calls Try.prog 22 #[.slice A0 a.length c0, .slice A1 b.length c1] w fun e w' => e = .returned (.bool (oneL a b)) ∧ Below w.heap.size w w' := by
  obtain ⟨k, h⟩ := Ev.rounds (same_form rd_T62 (fun l i h => rf_at i h) neRef neRef_iff api_Ref.l0 api_Ref.f (fun k a b n i => rfl) (fun k a b => rfl) a b (Kd.C_max hr0))
  exact (api_Ref.calls k A0 c0 a A1 c1 b _ w hr0 hc0 hr1 hc1 h).mono fun e w' ⟨h1, h2⟩ => ⟨h1, by obtain ⟨m, rfl⟩ := h2.out; exact pw_below_drewN (Below.refl _ _) m⟩
theorem reqRef_calls (A0 : Option Addr) (c0 : Nat) (a : List Ref) (A1 : Option Addr) (c1 : Nat) (b : List Ref) (w : World) (hr0 : Kd.C k62 w A0 a.length a) (hc0 : a.length ≤ c0) (hr1 : Kd.C k62 w A1 b.length b) (hc1 : b.length ≤ c1) :
    Calls Try.prog 29 #[.slice A0 a.length c0, .slice A1 b.length c1] w fun e w' => e = .returned (.bool (oneL a b)) ∧ Below w.heap.size w w' := by
  obtain ⟨k, h⟩ := Ev.rounds (same_form rd_T62 (fun l i h => rf_at i h) neRef neRef_iff apographref14_SameRefs.l0 apographref14_SameRefs.f (fun k a b n i => rfl) (fun k a b => rfl) a b (Kd.C_max hr0))
  exact (apographref14_SameRefs.calls k A0 c0 a A1 c1 b _ w hr0 hc0 hr1 hc1 h).mono fun e w' ⟨h1, h2⟩ => ⟨h1, by obtain ⟨m, rfl⟩ := h2.out; exact pw_below_drewN (Below.refl _ _) m⟩
def badEntry (x : Entry) : Bool := decide (60 < x.f0.size) || decide (250 < x.f1.size)
def lightEntry (l : List Entry) : Bool := l.all (fun x => !badEntry x) && decide (l.length ≤ 60)
theorem lightEntry_calls (A0 : Option Addr) (c0 : Nat) (l : List Entry) (w : World) (hr0 : Kd.C k53 w A0 l.length l) (hc0 : l.length ≤ c0) :
    Calls Try.prog 16 #[.slice A0 l.length c0] w fun e w' => e = .returned (.bool (lightEntry l)) ∧ Below w.heap.size w w' := by
  have hE := all_loop rd_T53 (fun l i h => en_at i h) badEntry 60 apographlaw09_Light.l0 (fun k x a n i h1 h2 h3 h => by
    simp only [badEntry, Bool.or_eq_true, decide_eq_true_eq] at h
    simp only [apographlaw09_Light.l0]
    rw [if_pos h1, if_pos h2, if_pos h3]
    by_cases c0 : 60 < (rd_T53 a i).f0.size
    · rw [if_pos (by omega)]
    · rw [if_neg (by omega)]
      rw [if_pos (by omega)]) (fun k x a n i h1 h2 h3 h => by
    simp only [badEntry, Bool.or_eq_false_iff, decide_eq_false_iff_not] at h
    simp only [apographlaw09_Light.l0]
    rw [if_pos h1, if_pos h2, if_pos h3, if_neg (by omega), if_neg (by omega)]) (fun k x a n i h1 => by
    simp only [apographlaw09_Light.l0]
    rw [if_neg h1]
    rfl) l.length l 0 (by omega) (Kd.C_max hr0) (by simp)
  obtain ⟨k, h⟩ := Ev.rounds hE
  exact apographlaw09_Light.calls k A0 c0 l _ w hr0 hc0 h
def badClash (x : Clash) : Bool := decide (60 < x.f0.size) || decide (250 < x.f1.f1.size) || decide (250 < x.f2.f1.size) || decide (250 < x.f3.f1.size)
def lightClash (l : List Clash) : Bool := l.all (fun x => !badClash x) && decide (l.length ≤ 20)
theorem lightClash_calls (A0 : Option Addr) (c0 : Nat) (l : List Clash) (w : World) (hr0 : Kd.C k59 w A0 l.length l) (hc0 : l.length ≤ c0) :
    Calls Try.prog 17 #[.slice A0 l.length c0] w fun e w' => e = .returned (.bool (lightClash l)) ∧ Below w.heap.size w w' := by
  have hE := all_loop rd_T59 (fun l i h => cl_at i h) badClash 20 apographlaw13_Light.l0 (fun k x a n i h1 h2 h3 h => by
    simp only [badClash, Bool.or_eq_true, decide_eq_true_eq] at h
    simp only [apographlaw13_Light.l0]
    rw [if_pos h1, if_pos h2, if_pos h3]
    by_cases c0 : 60 < (rd_T59 a i).f0.size
    · rw [if_pos (by omega)]
    · rw [if_neg (by omega)]
      by_cases c1 : 250 < (rd_T59 a i).f1.f1.size
      · rw [if_pos (by omega)]
      · rw [if_neg (by omega)]
        by_cases c2 : 250 < (rd_T59 a i).f2.f1.size
        · rw [if_pos (by omega)]
        · rw [if_neg (by omega)]
          rw [if_pos (by omega)]) (fun k x a n i h1 h2 h3 h => by
    simp only [badClash, Bool.or_eq_false_iff, decide_eq_false_iff_not] at h
    simp only [apographlaw13_Light.l0]
    rw [if_pos h1, if_pos h2, if_pos h3, if_neg (by omega), if_neg (by omega), if_neg (by omega), if_neg (by omega)]) (fun k x a n i h1 => by
    simp only [apographlaw13_Light.l0]
    rw [if_neg h1]
    rfl) l.length l 0 (by omega) (Kd.C_max hr0) (by simp)
  obtain ⟨k, h⟩ := Ev.rounds hE
  exact apographlaw13_Light.calls k A0 c0 l _ w hr0 hc0 h
def badRef (x : Ref) : Bool := decide (40 < x.f0.size)
def lightRef (l : List Ref) : Bool := l.all (fun x => !badRef x) && decide (l.length ≤ 45)
theorem lightRef_calls (A0 : Option Addr) (c0 : Nat) (l : List Ref) (w : World) (hr0 : Kd.C k62 w A0 l.length l) (hc0 : l.length ≤ c0) :
    Calls Try.prog 18 #[.slice A0 l.length c0] w fun e w' => e = .returned (.bool (lightRef l)) ∧ Below w.heap.size w w' := by
  have hE := all_loop rd_T62 (fun l i h => rf_at i h) badRef 45 apographlaw16_Few.l0 (fun k x a n i h1 h2 h3 h => by
    simp only [badRef, Bool.or_eq_true, decide_eq_true_eq] at h
    simp only [apographlaw16_Few.l0]
    rw [if_pos h1, if_pos h2, if_pos h3]
    rw [if_pos (by omega)]) (fun k x a n i h1 h2 h3 h => by
    simp only [badRef, Bool.or_eq_false_iff, decide_eq_false_iff_not] at h
    simp only [apographlaw16_Few.l0]
    rw [if_pos h1, if_pos h2, if_pos h3, if_neg (by omega)]) (fun k x a n i h1 => by
    simp only [apographlaw16_Few.l0]
    rw [if_neg h1]
    rfl) l.length l 0 (by omega) (Kd.C_max hr0) (by simp)
  obtain ⟨k, h⟩ := Ev.rounds hE
  exact apographlaw16_Few.calls k A0 c0 l _ w hr0 hc0 h
end Go.Proofs.Ytcegkljkmnpkaaa.Sep
namespace Go.Proofs.Ytcegkljkmnpkaaa.Sep
set_option linter.unusedSimpArgs false
set_option linter.unusedVariables false
open Go.RowKit Go.Proofs.Ytcegkljkmnpkaaa.PCore Go.Proofs.Ytcegkljkmnpkaaa.Plain Go.Proofs.YtcegkljkmnpkaaaW.PrintWords Go.Proofs.YtcegkljkmnpkaaaW.PrintLast Go.Proofs.YtcegkljkmnpkaaaW.PrintMore
open Go.Proofs.Ytcegkljkmnpkaaa.PDat (S53 S47 S57 S59 S62 k53 k47 k57 k59 k62)
theorem one_take {α : Type} (a b : List α) (i : Nat) (ha : i < a.length) (hb : i < b.length) (h : a.take i = b.take i) (e : a[i] = b[i]) : a.take (i + 1) = b.take (i + 1) := by
  rw [take_one a i ha, take_one b i hb, h, e]
theorem one_not {α : Type} (a b : List α) (i : Nat) (ha : i < a.length) (hb : i < b.length) (e : a[i] ≠ b[i]) : oneL a b = false := by
  rw [← Bool.not_eq_true, oneL_iff]
  rintro rfl
  exact e rfl
abbrev coV (c : Com) (A : Option Addr) (n : Nat) : Array Value := #[.int .u64 c.id, .slice A c.ps.length n, .int .u64 c.gen, .int .u64 c.root, .string c.text]
set_option maxHeartbeats 16000000 in
set_option maxRecDepth 100000 in
theorem eqf_calls (A : Option Addr) (n : Nat) (a : List Com) (A' : Option Addr) (n' : Nat) (b : List Com) (W : World) (hC : Kd.C kC W A a.length a) (hn : a.length ≤ n) (hC' : Kd.C kC W A' b.length b) (hn' : b.length ≤ n') :
    Calls Try.prog 23 #[.slice A a.length n, .slice A' b.length n', .func (.func 24) #[] #[]] W fun e W1 => e = .returned (.bool (oneL a b)) ∧ Below W.heap.size W W1 := by
  have huX := Try.underlying44
  have HC := Aside0.mk hC
  have HD := Aside0.mk hC'
  have HMX := Aside0.mk (Kd.C_max hC)
  by_cases hl : a.length = b.length
  · have e1 : ((a.length : Int) == (b.length : Int)) = true := beq_iff_eq.mpr (by omega)
    have e2 : ((a.length : Int) != (b.length : Int)) = false := by simp [bne, e1]
    have e3 : (a.length == b.length) = true := beq_iff_eq.mpr hl
    have HAB := Aside0.mk hl
    clear hC hC' hl
    go_enter Try.func23, Try.ntmps23
    go_wp2
    clear e1 e2 e3
    go_loopg [17] a.length (fun kq v17 w' => ∃ i : Nat, v17 = .int .i64 (i : Int) ∧ Aside0 (i ≤ a.length ∧ kq = a.length - i) ∧ Aside0 (a.take i = b.take i) ∧ Aside0 (Below W.heap.size W w'))
    case atStart => exact ⟨0, rfl, ⟨by omega, by omega⟩, ⟨rfl⟩, ⟨Below.refl _ _⟩⟩
    case round =>
      obtain ⟨i, rfl, HI, HT, HB⟩ := hrel
      by_cases hlt : i < a.length
      · have hltb : i < b.length := by have := HAB.out; omega
        obtain ⟨ad, A1, n1, hA, k0, k1, k2, k3, k4, hP, hPn⟩ := at_Com HC.out i hlt
        subst hA
        obtain ⟨bd, B1, m1, hB, q0, q1, q2, q3, q4, hQ, hQn⟩ := at_Com HD.out i hltb
        subst hB
        have hx := co_at (l := a) i hlt
        have hy := co_at (l := b) i hltb
        have HON := Aside0.mk (one_take a b i hlt hltb HT.out)
        have HOF := Aside0.mk (one_not a b i hlt hltb)
        rw [← hx, ← hy] at HON HOF
        generalize a.getD i zeroCom = x at k0 k1 k2 k3 k4 hP hPn HON HOF
        generalize b.getD i zeroCom = y at q0 q1 q2 q3 q4 hQ hQn HON HOF
        clear hx hy
        have HPQ := Aside0.mk (And.intro hP (And.intro hPn (And.intro hQ hQn)))
        clear hP hPn hQ hQn
        have h0 := pw_cell_below HB.out k0
        have h1 := pw_cell_below HB.out k1
        have h2 := pw_cell_below HB.out k2
        have h3 := pw_cell_below HB.out k3
        have h4 := pw_cell_below HB.out k4
        have hlt' : (i : Int) < (a.length : Int) := by omega
        have hltb' : (i : Int) < (b.length : Int) := by omega
        obtain ⟨i1, hi1⟩ : ∃ z, z = i + 1 := ⟨_, rfl⟩
        have HWI := Aside0.mk (show wrap64 ((i : Int) + 1) = (i1 : Int) by have := HMX.out; unfold wrap64; omega)
        have HI1 := Aside0.mk (show i1 = i + 1 ∧ i1 ≤ a.length by omega)
        have HX1 := Aside0.mk (blk_new wr (.cells (coV x A1 n1) 44))
        have HB1 := Aside0.mk (below_alloc HB.out (.cells (coV x A1 n1) 44))
        clear k0 k1 k2 k3 k4 hi1 hlt hltb
        go_upto_region 6 with (fail)
        clear h0 h1 h2 h3 h4
        generalize wr.alloc (.cells (coV x A1 n1) 44) = w1 at HX1 HB1 ⊢
        generalize wr.heap.size = gx at HX1 ⊢
        have h0 := pw_cell_below HB1.out q0
        have h1 := pw_cell_below HB1.out q1
        have h2 := pw_cell_below HB1.out q2
        have h3 := pw_cell_below HB1.out q3
        have h4 := pw_cell_below HB1.out q4
        have HX2 := Aside0.mk (blk_alloc HX1.out (.cells (coV y B1 m1) 44))
        have HY2 := Aside0.mk (blk_new w1 (.cells (coV y B1 m1) 44))
        have HB2 := Aside0.mk (below_alloc HB1.out (.cells (coV y B1 m1) 44))
        clear q0 q1 q2 q3 q4
        go_upto_region 7 with (fail)
        clear h0 h1 h2 h3 h4
        generalize w1.alloc (.cells (coV y B1 m1) 44) = w2 at HX2 HY2 HB2 ⊢
        generalize w1.heap.size = gy at HY2 ⊢
        obtain ⟨x0, x1, x2, x3, x4⟩ := five_cells HX2.out
        obtain ⟨y0, y1, y2, y3, y4⟩ := five_cells HY2.out
        cases hs : sameCo x y with
        | true =>
          have HS := Aside0.mk hs
          have HT2 := Aside0.mk (HON.out ((sameCo_iff x y).1 hs))
          clear hs
          go_wp2_with (go_at_call 24; refine (same14_calls A1 n1 x B1 m1 y _ (Kd.C_below HPQ.out.1 HB2.out) HPQ.out.2.1 (Kd.C_below HPQ.out.2.2.1 HB2.out) HPQ.out.2.2.2).mono ?_; rw [HS.out]; rintro e w3 ⟨rfl, hb⟩; have HB3 := Aside0.mk (below_step HB2.out hb); clear hb)
          go_roundg (a.length - i1)
          case measure => have := HI.out; have := HI1.out; omega
          case rel =>
            refine ⟨i1, ?_, ⟨?_⟩, ⟨?_⟩, HB3⟩
            · first | rfl | (rw [HWI.out]; done) | simp
            · exact ⟨HI1.out.2, rfl⟩
            · rw [HI1.out.1]; exact HT2.out
        | false =>
          have HS := Aside0.mk hs
          have HR := Aside0.mk (HOF.out (fun h => by rw [(sameCo_iff x y).2 h] at hs; cases hs))
          clear hs
          go_wp2_with (go_at_call 24; refine (same14_calls A1 n1 x B1 m1 y _ (Kd.C_below HPQ.out.1 HB2.out) HPQ.out.2.1 (Kd.C_below HPQ.out.2.2.1 HB2.out) HPQ.out.2.2.2).mono ?_; rw [HS.out]; rintro e w3 ⟨rfl, hb⟩; have HB3 := Aside0.mk (below_step HB2.out hb); clear hb)
          go_ret
          rw [HR.out]
          exact ⟨rfl, HB3.out⟩
      · have hI : i = a.length := by have := HI.out; omega
        have hlt' : ¬ (i : Int) < (a.length : Int) := by omega
        have ht := HT.out
        rw [hI, List.take_length, HAB.out, List.take_length] at ht
        have HR := Aside0.mk (show oneL a b = true by rw [oneL_iff]; exact ht)
        clear ht hI hlt
        go_wp2
        go_ret
        rw [HR.out]
        exact ⟨rfl, HB.out⟩
  · have e1 : ((a.length : Int) == (b.length : Int)) = false := beq_eq_false_iff_ne.mpr (by omega)
    have e2 : ((a.length : Int) != (b.length : Int)) = true := by simp [bne, e1]
    have e3 : (a.length == b.length) = false := beq_eq_false_iff_ne.mpr hl
    have HR := Aside0.mk (show oneL a b = false by rw [← Bool.not_eq_true, oneL_iff]; exact fun h => hl (by rw [h]))
    clear hC hC' hl
    go_enter Try.func23, Try.ntmps23
    go_wp2
    go_ret
    rw [HR.out]
    exact ⟨rfl, Below.refl _ _⟩
/-- Whether the plain fields of answers are the same. -/
def plainRp (a b : Rp) : Bool := (a.err == b.err) && ((a.is == b.is) && ((a.val.toList == b.val.toList) && ((a.id == b.id) && (a.n == b.n))))
noncomputable def listsRp (a b : Rp) : Bool := oneL a.es b.es && (oneL a.chs b.chs && (oneL a.cls b.cls && oneL a.refs b.refs))
noncomputable def sameRp (a b : Rp) : Bool := plainRp a b && (listsRp a b && oneL a.coms b.coms)
theorem chain5 (b1 b2 b3 b4 b5 : Bool) : b1 = false ∨ (b1 = true ∧ b2 = false) ∨ (b1 = true ∧ b2 = true ∧ b3 = false) ∨ (b1 = true ∧ b2 = true ∧ b3 = true ∧ b4 = false) ∨ (b1 = true ∧ b2 = true ∧ b3 = true ∧ b4 = true ∧ b5 = false) ∨ (b1 = true ∧ b2 = true ∧ b3 = true ∧ b4 = true ∧ b5 = true) := by
  cases b1 <;> cases b2 <;> cases b3 <;> cases b4 <;> cases b5 <;> simp
theorem chain4 (b1 b2 b3 b4 : Bool) : b1 = false ∨ (b1 = true ∧ b2 = false) ∨ (b1 = true ∧ b2 = true ∧ b3 = false) ∨ (b1 = true ∧ b2 = true ∧ b3 = true ∧ b4 = false) ∨ (b1 = true ∧ b2 = true ∧ b3 = true ∧ b4 = true) := by
  cases b1 <;> cases b2 <;> cases b3 <;> cases b4 <;> simp
set_option maxHeartbeats 64000000 in
set_option maxRecDepth 100000 in
theorem same20_calls (a b : Rp) (A1 : Option Addr) (n1 : Nat) (A2 : Option Addr) (n2 : Nat) (A3 : Option Addr) (n3 : Nat) (A4 : Option Addr) (n4 : Nat) (A5 : Option Addr) (n5 : Nat) (B1 : Option Addr) (m1 : Nat) (B2 : Option Addr) (m2 : Nat) (B3 : Option Addr) (m3 : Nat) (B4 : Option Addr) (m4 : Nat) (B5 : Option Addr) (m5 : Nat) (W : World) (h : RpC W a A1 n1 A2 n2 A3 n3 A4 n4 A5 n5) (h' : RpC W b B1 m1 B2 m2 B3 m3 B4 m4 B5 m5) :
    Calls Try.prog 8 #[.agg (rpV a A1 n1 A2 n2 A3 n3 A4 n4 A5 n5), .agg (rpV b B1 m1 B2 m2 B3 m3 B4 m4 B5 m5)] W fun e W1 => e = .returned (.bool (sameRp a b)) ∧ Below W.heap.size W W1 := by
  have huR := Try.underlying30
  have HC := Aside0.mk h
  have HD := Aside0.mk h'
  have HX0 := Aside0.mk (blk_alloc (blk_new W (.cells (rpV a A1 n1 A2 n2 A3 n3 A4 n4 A5 n5) 30)) (.cells (rpV b B1 m1 B2 m2 B3 m3 B4 m4 B5 m5) 30))
  have HY0 := Aside0.mk (blk_new (W.alloc (.cells (rpV a A1 n1 A2 n2 A3 n3 A4 n4 A5 n5) 30)) (.cells (rpV b B1 m1 B2 m2 B3 m3 B4 m4 B5 m5) 30))
  have HB0 := Aside0.mk (below_alloc (below_alloc (Below.refl W.heap.size W) (.cells (rpV a A1 n1 A2 n2 A3 n3 A4 n4 A5 n5) 30)) (.cells (rpV b B1 m1 B2 m2 B3 m3 B4 m4 B5 m5) 30))
  clear h h'
  go_enter Try.func8, Try.ntmps8
  go_upto_region 1 with (fail)
  try rw [size_one W (.cells (rpV a A1 n1 A2 n2 A3 n3 A4 n4 A5 n5) 30)]
  generalize (W.alloc (.cells (rpV a A1 n1 A2 n2 A3 n3 A4 n4 A5 n5) 30)).alloc (.cells (rpV b B1 m1 B2 m2 B3 m3 B4 m4 B5 m5) 30) = w0 at HX0 HY0 HB0 ⊢
  generalize (W.alloc (.cells (rpV a A1 n1 A2 n2 A3 n3 A4 n4 A5 n5) 30)).heap.size = gy at HY0 ⊢
  generalize hgx : W.heap.size = gx at HX0 ⊢
  obtain ⟨p0, p1, p2, p3, p4, p5, p6, p7, p8, p9⟩ := ten_cells HX0.out
  obtain ⟨q0, q1, q2, q3, q4, q5, q6, q7, q8, q9⟩ := ten_cells HY0.out
  rcases chain5 (a.err == b.err) (a.is == b.is) (a.val.toList == b.val.toList) (a.id == b.id) (a.n == b.n) with c1 | ⟨c1, c2⟩ | ⟨c1, c2, c3⟩ | ⟨c1, c2, c3, c4⟩ | ⟨c1, c2, c3, c4, c5⟩ | ⟨c1, c2, c3, c4, c5⟩
  · have HPL := Aside0.mk (show plainRp a b = false by simp only [plainRp]; simp [c1])
    go_upto_region 2 with (fail)
    clear c1
    rcases chain4 (oneL a.es b.es) (oneL a.chs b.chs) (oneL a.cls b.cls) (oneL a.refs b.refs) with e1 | ⟨e1, e2⟩ | ⟨e1, e2, e3⟩ | ⟨e1, e2, e3, e4⟩ | ⟨e1, e2, e3, e4⟩
    · have HLS := Aside0.mk (show listsRp a b = false by simp only [listsRp]; simp [e1])
      have HE1 := Aside0.mk e1
      clear e1
      go_wp2_with (first | (go_at_call 19; refine (eqEntry_calls A1 n1 a.es B1 m1 b.es _ (Kd.C_below HC.out.c1 HB0.out) HC.out.m1 (Kd.C_below HD.out.c1 HB0.out) HD.out.m1).mono ?_; rw [HE1.out]; rintro e wl1 ⟨rfl, hb⟩; have HL1 := Aside0.mk (below_step HB0.out hb); have HX1 := Aside0.mk (blk_below HX0.out hb); have HY1 := Aside0.mk (blk_below HY0.out hb); obtain ⟨p1_0, p1_1, p1_2, p1_3, p1_4, p1_5, p1_6, p1_7, p1_8, p1_9⟩ := ten_cells HX1.out; obtain ⟨q1_0, q1_1, q1_2, q1_3, q1_4, q1_5, q1_6, q1_7, q1_8, q1_9⟩ := ten_cells HY1.out; clear hb))
      go_ret
      exact ⟨by simp [sameRp, HPL.out, HLS.out], HL1.out⟩
    · have HLS := Aside0.mk (show listsRp a b = false by simp only [listsRp]; simp [e1, e2])
      have HE1 := Aside0.mk e1
      have HE2 := Aside0.mk e2
      clear e1 e2
      go_wp2_with (first | (go_at_call 19; refine (eqEntry_calls A1 n1 a.es B1 m1 b.es _ (Kd.C_below HC.out.c1 HB0.out) HC.out.m1 (Kd.C_below HD.out.c1 HB0.out) HD.out.m1).mono ?_; rw [HE1.out]; rintro e wl1 ⟨rfl, hb⟩; have HL1 := Aside0.mk (below_step HB0.out hb); have HX1 := Aside0.mk (blk_below HX0.out hb); have HY1 := Aside0.mk (blk_below HY0.out hb); obtain ⟨p1_0, p1_1, p1_2, p1_3, p1_4, p1_5, p1_6, p1_7, p1_8, p1_9⟩ := ten_cells HX1.out; obtain ⟨q1_0, q1_1, q1_2, q1_3, q1_4, q1_5, q1_6, q1_7, q1_8, q1_9⟩ := ten_cells HY1.out; clear hb) | (go_at_call 20; refine (eqChange_calls A2 n2 a.chs B2 m2 b.chs _ (Kd.C_below HC.out.c2 HL1.out) HC.out.m2 (Kd.C_below HD.out.c2 HL1.out) HD.out.m2).mono ?_; rw [HE2.out]; rintro e wl2 ⟨rfl, hb⟩; have HL2 := Aside0.mk (below_step HL1.out hb); have HX2 := Aside0.mk (blk_below HX1.out hb); have HY2 := Aside0.mk (blk_below HY1.out hb); obtain ⟨p2_0, p2_1, p2_2, p2_3, p2_4, p2_5, p2_6, p2_7, p2_8, p2_9⟩ := ten_cells HX2.out; obtain ⟨q2_0, q2_1, q2_2, q2_3, q2_4, q2_5, q2_6, q2_7, q2_8, q2_9⟩ := ten_cells HY2.out; clear hb))
      go_ret
      exact ⟨by simp [sameRp, HPL.out, HLS.out], HL2.out⟩
    · have HLS := Aside0.mk (show listsRp a b = false by simp only [listsRp]; simp [e1, e2, e3])
      have HE1 := Aside0.mk e1
      have HE2 := Aside0.mk e2
      have HE3 := Aside0.mk e3
      clear e1 e2 e3
      go_wp2_with (first | (go_at_call 19; refine (eqEntry_calls A1 n1 a.es B1 m1 b.es _ (Kd.C_below HC.out.c1 HB0.out) HC.out.m1 (Kd.C_below HD.out.c1 HB0.out) HD.out.m1).mono ?_; rw [HE1.out]; rintro e wl1 ⟨rfl, hb⟩; have HL1 := Aside0.mk (below_step HB0.out hb); have HX1 := Aside0.mk (blk_below HX0.out hb); have HY1 := Aside0.mk (blk_below HY0.out hb); obtain ⟨p1_0, p1_1, p1_2, p1_3, p1_4, p1_5, p1_6, p1_7, p1_8, p1_9⟩ := ten_cells HX1.out; obtain ⟨q1_0, q1_1, q1_2, q1_3, q1_4, q1_5, q1_6, q1_7, q1_8, q1_9⟩ := ten_cells HY1.out; clear hb) | (go_at_call 20; refine (eqChange_calls A2 n2 a.chs B2 m2 b.chs _ (Kd.C_below HC.out.c2 HL1.out) HC.out.m2 (Kd.C_below HD.out.c2 HL1.out) HD.out.m2).mono ?_; rw [HE2.out]; rintro e wl2 ⟨rfl, hb⟩; have HL2 := Aside0.mk (below_step HL1.out hb); have HX2 := Aside0.mk (blk_below HX1.out hb); have HY2 := Aside0.mk (blk_below HY1.out hb); obtain ⟨p2_0, p2_1, p2_2, p2_3, p2_4, p2_5, p2_6, p2_7, p2_8, p2_9⟩ := ten_cells HX2.out; obtain ⟨q2_0, q2_1, q2_2, q2_3, q2_4, q2_5, q2_6, q2_7, q2_8, q2_9⟩ := ten_cells HY2.out; clear hb) | (go_at_call 21; refine (eqClash_calls A3 n3 a.cls B3 m3 b.cls _ (Kd.C_below HC.out.c3 HL2.out) HC.out.m3 (Kd.C_below HD.out.c3 HL2.out) HD.out.m3).mono ?_; rw [HE3.out]; rintro e wl3 ⟨rfl, hb⟩; have HL3 := Aside0.mk (below_step HL2.out hb); have HX3 := Aside0.mk (blk_below HX2.out hb); have HY3 := Aside0.mk (blk_below HY2.out hb); obtain ⟨p3_0, p3_1, p3_2, p3_3, p3_4, p3_5, p3_6, p3_7, p3_8, p3_9⟩ := ten_cells HX3.out; obtain ⟨q3_0, q3_1, q3_2, q3_3, q3_4, q3_5, q3_6, q3_7, q3_8, q3_9⟩ := ten_cells HY3.out; clear hb))
      go_ret
      exact ⟨by simp [sameRp, HPL.out, HLS.out], HL3.out⟩
    · have HLS := Aside0.mk (show listsRp a b = false by simp only [listsRp]; simp [e1, e2, e3, e4])
      have HE1 := Aside0.mk e1
      have HE2 := Aside0.mk e2
      have HE3 := Aside0.mk e3
      have HE4 := Aside0.mk e4
      clear e1 e2 e3 e4
      go_wp2_with (first | (go_at_call 19; refine (eqEntry_calls A1 n1 a.es B1 m1 b.es _ (Kd.C_below HC.out.c1 HB0.out) HC.out.m1 (Kd.C_below HD.out.c1 HB0.out) HD.out.m1).mono ?_; rw [HE1.out]; rintro e wl1 ⟨rfl, hb⟩; have HL1 := Aside0.mk (below_step HB0.out hb); have HX1 := Aside0.mk (blk_below HX0.out hb); have HY1 := Aside0.mk (blk_below HY0.out hb); obtain ⟨p1_0, p1_1, p1_2, p1_3, p1_4, p1_5, p1_6, p1_7, p1_8, p1_9⟩ := ten_cells HX1.out; obtain ⟨q1_0, q1_1, q1_2, q1_3, q1_4, q1_5, q1_6, q1_7, q1_8, q1_9⟩ := ten_cells HY1.out; clear hb) | (go_at_call 20; refine (eqChange_calls A2 n2 a.chs B2 m2 b.chs _ (Kd.C_below HC.out.c2 HL1.out) HC.out.m2 (Kd.C_below HD.out.c2 HL1.out) HD.out.m2).mono ?_; rw [HE2.out]; rintro e wl2 ⟨rfl, hb⟩; have HL2 := Aside0.mk (below_step HL1.out hb); have HX2 := Aside0.mk (blk_below HX1.out hb); have HY2 := Aside0.mk (blk_below HY1.out hb); obtain ⟨p2_0, p2_1, p2_2, p2_3, p2_4, p2_5, p2_6, p2_7, p2_8, p2_9⟩ := ten_cells HX2.out; obtain ⟨q2_0, q2_1, q2_2, q2_3, q2_4, q2_5, q2_6, q2_7, q2_8, q2_9⟩ := ten_cells HY2.out; clear hb) | (go_at_call 21; refine (eqClash_calls A3 n3 a.cls B3 m3 b.cls _ (Kd.C_below HC.out.c3 HL2.out) HC.out.m3 (Kd.C_below HD.out.c3 HL2.out) HD.out.m3).mono ?_; rw [HE3.out]; rintro e wl3 ⟨rfl, hb⟩; have HL3 := Aside0.mk (below_step HL2.out hb); have HX3 := Aside0.mk (blk_below HX2.out hb); have HY3 := Aside0.mk (blk_below HY2.out hb); obtain ⟨p3_0, p3_1, p3_2, p3_3, p3_4, p3_5, p3_6, p3_7, p3_8, p3_9⟩ := ten_cells HX3.out; obtain ⟨q3_0, q3_1, q3_2, q3_3, q3_4, q3_5, q3_6, q3_7, q3_8, q3_9⟩ := ten_cells HY3.out; clear hb) | (go_at_call 22; refine (eqRef_calls A5 n5 a.refs B5 m5 b.refs _ (Kd.C_below HC.out.c5 HL3.out) HC.out.m5 (Kd.C_below HD.out.c5 HL3.out) HD.out.m5).mono ?_; rw [HE4.out]; rintro e wl4 ⟨rfl, hb⟩; have HL4 := Aside0.mk (below_step HL3.out hb); have HX4 := Aside0.mk (blk_below HX3.out hb); have HY4 := Aside0.mk (blk_below HY3.out hb); obtain ⟨p4_0, p4_1, p4_2, p4_3, p4_4, p4_5, p4_6, p4_7, p4_8, p4_9⟩ := ten_cells HX4.out; obtain ⟨q4_0, q4_1, q4_2, q4_3, q4_4, q4_5, q4_6, q4_7, q4_8, q4_9⟩ := ten_cells HY4.out; clear hb))
      go_ret
      exact ⟨by simp [sameRp, HPL.out, HLS.out], HL4.out⟩
    · have HLS := Aside0.mk (show listsRp a b = true by simp only [listsRp]; simp [e1, e2, e3, e4])
      have HE1 := Aside0.mk e1
      have HE2 := Aside0.mk e2
      have HE3 := Aside0.mk e3
      have HE4 := Aside0.mk e4
      clear e1 e2 e3 e4
      go_wp2_with (first | (go_at_call 19; refine (eqEntry_calls A1 n1 a.es B1 m1 b.es _ (Kd.C_below HC.out.c1 HB0.out) HC.out.m1 (Kd.C_below HD.out.c1 HB0.out) HD.out.m1).mono ?_; rw [HE1.out]; rintro e wl1 ⟨rfl, hb⟩; have HL1 := Aside0.mk (below_step HB0.out hb); have HX1 := Aside0.mk (blk_below HX0.out hb); have HY1 := Aside0.mk (blk_below HY0.out hb); obtain ⟨p1_0, p1_1, p1_2, p1_3, p1_4, p1_5, p1_6, p1_7, p1_8, p1_9⟩ := ten_cells HX1.out; obtain ⟨q1_0, q1_1, q1_2, q1_3, q1_4, q1_5, q1_6, q1_7, q1_8, q1_9⟩ := ten_cells HY1.out; clear hb) | (go_at_call 20; refine (eqChange_calls A2 n2 a.chs B2 m2 b.chs _ (Kd.C_below HC.out.c2 HL1.out) HC.out.m2 (Kd.C_below HD.out.c2 HL1.out) HD.out.m2).mono ?_; rw [HE2.out]; rintro e wl2 ⟨rfl, hb⟩; have HL2 := Aside0.mk (below_step HL1.out hb); have HX2 := Aside0.mk (blk_below HX1.out hb); have HY2 := Aside0.mk (blk_below HY1.out hb); obtain ⟨p2_0, p2_1, p2_2, p2_3, p2_4, p2_5, p2_6, p2_7, p2_8, p2_9⟩ := ten_cells HX2.out; obtain ⟨q2_0, q2_1, q2_2, q2_3, q2_4, q2_5, q2_6, q2_7, q2_8, q2_9⟩ := ten_cells HY2.out; clear hb) | (go_at_call 21; refine (eqClash_calls A3 n3 a.cls B3 m3 b.cls _ (Kd.C_below HC.out.c3 HL2.out) HC.out.m3 (Kd.C_below HD.out.c3 HL2.out) HD.out.m3).mono ?_; rw [HE3.out]; rintro e wl3 ⟨rfl, hb⟩; have HL3 := Aside0.mk (below_step HL2.out hb); have HX3 := Aside0.mk (blk_below HX2.out hb); have HY3 := Aside0.mk (blk_below HY2.out hb); obtain ⟨p3_0, p3_1, p3_2, p3_3, p3_4, p3_5, p3_6, p3_7, p3_8, p3_9⟩ := ten_cells HX3.out; obtain ⟨q3_0, q3_1, q3_2, q3_3, q3_4, q3_5, q3_6, q3_7, q3_8, q3_9⟩ := ten_cells HY3.out; clear hb) | (go_at_call 22; refine (eqRef_calls A5 n5 a.refs B5 m5 b.refs _ (Kd.C_below HC.out.c5 HL3.out) HC.out.m5 (Kd.C_below HD.out.c5 HL3.out) HD.out.m5).mono ?_; rw [HE4.out]; rintro e wl4 ⟨rfl, hb⟩; have HL4 := Aside0.mk (below_step HL3.out hb); have HX4 := Aside0.mk (blk_below HX3.out hb); have HY4 := Aside0.mk (blk_below HY3.out hb); obtain ⟨p4_0, p4_1, p4_2, p4_3, p4_4, p4_5, p4_6, p4_7, p4_8, p4_9⟩ := ten_cells HX4.out; obtain ⟨q4_0, q4_1, q4_2, q4_3, q4_4, q4_5, q4_6, q4_7, q4_8, q4_9⟩ := ten_cells HY4.out; clear hb))
      go_ret
      exact ⟨by simp [sameRp, HPL.out, HLS.out], HL4.out⟩
  · have HPL := Aside0.mk (show plainRp a b = false by simp only [plainRp]; simp [c1, c2])
    go_upto_region 2 with (fail)
    clear c1 c2
    rcases chain4 (oneL a.es b.es) (oneL a.chs b.chs) (oneL a.cls b.cls) (oneL a.refs b.refs) with e1 | ⟨e1, e2⟩ | ⟨e1, e2, e3⟩ | ⟨e1, e2, e3, e4⟩ | ⟨e1, e2, e3, e4⟩
    · have HLS := Aside0.mk (show listsRp a b = false by simp only [listsRp]; simp [e1])
      have HE1 := Aside0.mk e1
      clear e1
      go_wp2_with (first | (go_at_call 19; refine (eqEntry_calls A1 n1 a.es B1 m1 b.es _ (Kd.C_below HC.out.c1 HB0.out) HC.out.m1 (Kd.C_below HD.out.c1 HB0.out) HD.out.m1).mono ?_; rw [HE1.out]; rintro e wl1 ⟨rfl, hb⟩; have HL1 := Aside0.mk (below_step HB0.out hb); have HX1 := Aside0.mk (blk_below HX0.out hb); have HY1 := Aside0.mk (blk_below HY0.out hb); obtain ⟨p1_0, p1_1, p1_2, p1_3, p1_4, p1_5, p1_6, p1_7, p1_8, p1_9⟩ := ten_cells HX1.out; obtain ⟨q1_0, q1_1, q1_2, q1_3, q1_4, q1_5, q1_6, q1_7, q1_8, q1_9⟩ := ten_cells HY1.out; clear hb))
      go_ret
      exact ⟨by simp [sameRp, HPL.out, HLS.out], HL1.out⟩
    · have HLS := Aside0.mk (show listsRp a b = false by simp only [listsRp]; simp [e1, e2])
      have HE1 := Aside0.mk e1
      have HE2 := Aside0.mk e2
      clear e1 e2
      go_wp2_with (first | (go_at_call 19; refine (eqEntry_calls A1 n1 a.es B1 m1 b.es _ (Kd.C_below HC.out.c1 HB0.out) HC.out.m1 (Kd.C_below HD.out.c1 HB0.out) HD.out.m1).mono ?_; rw [HE1.out]; rintro e wl1 ⟨rfl, hb⟩; have HL1 := Aside0.mk (below_step HB0.out hb); have HX1 := Aside0.mk (blk_below HX0.out hb); have HY1 := Aside0.mk (blk_below HY0.out hb); obtain ⟨p1_0, p1_1, p1_2, p1_3, p1_4, p1_5, p1_6, p1_7, p1_8, p1_9⟩ := ten_cells HX1.out; obtain ⟨q1_0, q1_1, q1_2, q1_3, q1_4, q1_5, q1_6, q1_7, q1_8, q1_9⟩ := ten_cells HY1.out; clear hb) | (go_at_call 20; refine (eqChange_calls A2 n2 a.chs B2 m2 b.chs _ (Kd.C_below HC.out.c2 HL1.out) HC.out.m2 (Kd.C_below HD.out.c2 HL1.out) HD.out.m2).mono ?_; rw [HE2.out]; rintro e wl2 ⟨rfl, hb⟩; have HL2 := Aside0.mk (below_step HL1.out hb); have HX2 := Aside0.mk (blk_below HX1.out hb); have HY2 := Aside0.mk (blk_below HY1.out hb); obtain ⟨p2_0, p2_1, p2_2, p2_3, p2_4, p2_5, p2_6, p2_7, p2_8, p2_9⟩ := ten_cells HX2.out; obtain ⟨q2_0, q2_1, q2_2, q2_3, q2_4, q2_5, q2_6, q2_7, q2_8, q2_9⟩ := ten_cells HY2.out; clear hb))
      go_ret
      exact ⟨by simp [sameRp, HPL.out, HLS.out], HL2.out⟩
    · have HLS := Aside0.mk (show listsRp a b = false by simp only [listsRp]; simp [e1, e2, e3])
      have HE1 := Aside0.mk e1
      have HE2 := Aside0.mk e2
      have HE3 := Aside0.mk e3
      clear e1 e2 e3
      go_wp2_with (first | (go_at_call 19; refine (eqEntry_calls A1 n1 a.es B1 m1 b.es _ (Kd.C_below HC.out.c1 HB0.out) HC.out.m1 (Kd.C_below HD.out.c1 HB0.out) HD.out.m1).mono ?_; rw [HE1.out]; rintro e wl1 ⟨rfl, hb⟩; have HL1 := Aside0.mk (below_step HB0.out hb); have HX1 := Aside0.mk (blk_below HX0.out hb); have HY1 := Aside0.mk (blk_below HY0.out hb); obtain ⟨p1_0, p1_1, p1_2, p1_3, p1_4, p1_5, p1_6, p1_7, p1_8, p1_9⟩ := ten_cells HX1.out; obtain ⟨q1_0, q1_1, q1_2, q1_3, q1_4, q1_5, q1_6, q1_7, q1_8, q1_9⟩ := ten_cells HY1.out; clear hb) | (go_at_call 20; refine (eqChange_calls A2 n2 a.chs B2 m2 b.chs _ (Kd.C_below HC.out.c2 HL1.out) HC.out.m2 (Kd.C_below HD.out.c2 HL1.out) HD.out.m2).mono ?_; rw [HE2.out]; rintro e wl2 ⟨rfl, hb⟩; have HL2 := Aside0.mk (below_step HL1.out hb); have HX2 := Aside0.mk (blk_below HX1.out hb); have HY2 := Aside0.mk (blk_below HY1.out hb); obtain ⟨p2_0, p2_1, p2_2, p2_3, p2_4, p2_5, p2_6, p2_7, p2_8, p2_9⟩ := ten_cells HX2.out; obtain ⟨q2_0, q2_1, q2_2, q2_3, q2_4, q2_5, q2_6, q2_7, q2_8, q2_9⟩ := ten_cells HY2.out; clear hb) | (go_at_call 21; refine (eqClash_calls A3 n3 a.cls B3 m3 b.cls _ (Kd.C_below HC.out.c3 HL2.out) HC.out.m3 (Kd.C_below HD.out.c3 HL2.out) HD.out.m3).mono ?_; rw [HE3.out]; rintro e wl3 ⟨rfl, hb⟩; have HL3 := Aside0.mk (below_step HL2.out hb); have HX3 := Aside0.mk (blk_below HX2.out hb); have HY3 := Aside0.mk (blk_below HY2.out hb); obtain ⟨p3_0, p3_1, p3_2, p3_3, p3_4, p3_5, p3_6, p3_7, p3_8, p3_9⟩ := ten_cells HX3.out; obtain ⟨q3_0, q3_1, q3_2, q3_3, q3_4, q3_5, q3_6, q3_7, q3_8, q3_9⟩ := ten_cells HY3.out; clear hb))
      go_ret
      exact ⟨by simp [sameRp, HPL.out, HLS.out], HL3.out⟩
    · have HLS := Aside0.mk (show listsRp a b = false by simp only [listsRp]; simp [e1, e2, e3, e4])
      have HE1 := Aside0.mk e1
      have HE2 := Aside0.mk e2
      have HE3 := Aside0.mk e3
      have HE4 := Aside0.mk e4
      clear e1 e2 e3 e4
      go_wp2_with (first | (go_at_call 19; refine (eqEntry_calls A1 n1 a.es B1 m1 b.es _ (Kd.C_below HC.out.c1 HB0.out) HC.out.m1 (Kd.C_below HD.out.c1 HB0.out) HD.out.m1).mono ?_; rw [HE1.out]; rintro e wl1 ⟨rfl, hb⟩; have HL1 := Aside0.mk (below_step HB0.out hb); have HX1 := Aside0.mk (blk_below HX0.out hb); have HY1 := Aside0.mk (blk_below HY0.out hb); obtain ⟨p1_0, p1_1, p1_2, p1_3, p1_4, p1_5, p1_6, p1_7, p1_8, p1_9⟩ := ten_cells HX1.out; obtain ⟨q1_0, q1_1, q1_2, q1_3, q1_4, q1_5, q1_6, q1_7, q1_8, q1_9⟩ := ten_cells HY1.out; clear hb) | (go_at_call 20; refine (eqChange_calls A2 n2 a.chs B2 m2 b.chs _ (Kd.C_below HC.out.c2 HL1.out) HC.out.m2 (Kd.C_below HD.out.c2 HL1.out) HD.out.m2).mono ?_; rw [HE2.out]; rintro e wl2 ⟨rfl, hb⟩; have HL2 := Aside0.mk (below_step HL1.out hb); have HX2 := Aside0.mk (blk_below HX1.out hb); have HY2 := Aside0.mk (blk_below HY1.out hb); obtain ⟨p2_0, p2_1, p2_2, p2_3, p2_4, p2_5, p2_6, p2_7, p2_8, p2_9⟩ := ten_cells HX2.out; obtain ⟨q2_0, q2_1, q2_2, q2_3, q2_4, q2_5, q2_6, q2_7, q2_8, q2_9⟩ := ten_cells HY2.out; clear hb) | (go_at_call 21; refine (eqClash_calls A3 n3 a.cls B3 m3 b.cls _ (Kd.C_below HC.out.c3 HL2.out) HC.out.m3 (Kd.C_below HD.out.c3 HL2.out) HD.out.m3).mono ?_; rw [HE3.out]; rintro e wl3 ⟨rfl, hb⟩; have HL3 := Aside0.mk (below_step HL2.out hb); have HX3 := Aside0.mk (blk_below HX2.out hb); have HY3 := Aside0.mk (blk_below HY2.out hb); obtain ⟨p3_0, p3_1, p3_2, p3_3, p3_4, p3_5, p3_6, p3_7, p3_8, p3_9⟩ := ten_cells HX3.out; obtain ⟨q3_0, q3_1, q3_2, q3_3, q3_4, q3_5, q3_6, q3_7, q3_8, q3_9⟩ := ten_cells HY3.out; clear hb) | (go_at_call 22; refine (eqRef_calls A5 n5 a.refs B5 m5 b.refs _ (Kd.C_below HC.out.c5 HL3.out) HC.out.m5 (Kd.C_below HD.out.c5 HL3.out) HD.out.m5).mono ?_; rw [HE4.out]; rintro e wl4 ⟨rfl, hb⟩; have HL4 := Aside0.mk (below_step HL3.out hb); have HX4 := Aside0.mk (blk_below HX3.out hb); have HY4 := Aside0.mk (blk_below HY3.out hb); obtain ⟨p4_0, p4_1, p4_2, p4_3, p4_4, p4_5, p4_6, p4_7, p4_8, p4_9⟩ := ten_cells HX4.out; obtain ⟨q4_0, q4_1, q4_2, q4_3, q4_4, q4_5, q4_6, q4_7, q4_8, q4_9⟩ := ten_cells HY4.out; clear hb))
      go_ret
      exact ⟨by simp [sameRp, HPL.out, HLS.out], HL4.out⟩
    · have HLS := Aside0.mk (show listsRp a b = true by simp only [listsRp]; simp [e1, e2, e3, e4])
      have HE1 := Aside0.mk e1
      have HE2 := Aside0.mk e2
      have HE3 := Aside0.mk e3
      have HE4 := Aside0.mk e4
      clear e1 e2 e3 e4
      go_wp2_with (first | (go_at_call 19; refine (eqEntry_calls A1 n1 a.es B1 m1 b.es _ (Kd.C_below HC.out.c1 HB0.out) HC.out.m1 (Kd.C_below HD.out.c1 HB0.out) HD.out.m1).mono ?_; rw [HE1.out]; rintro e wl1 ⟨rfl, hb⟩; have HL1 := Aside0.mk (below_step HB0.out hb); have HX1 := Aside0.mk (blk_below HX0.out hb); have HY1 := Aside0.mk (blk_below HY0.out hb); obtain ⟨p1_0, p1_1, p1_2, p1_3, p1_4, p1_5, p1_6, p1_7, p1_8, p1_9⟩ := ten_cells HX1.out; obtain ⟨q1_0, q1_1, q1_2, q1_3, q1_4, q1_5, q1_6, q1_7, q1_8, q1_9⟩ := ten_cells HY1.out; clear hb) | (go_at_call 20; refine (eqChange_calls A2 n2 a.chs B2 m2 b.chs _ (Kd.C_below HC.out.c2 HL1.out) HC.out.m2 (Kd.C_below HD.out.c2 HL1.out) HD.out.m2).mono ?_; rw [HE2.out]; rintro e wl2 ⟨rfl, hb⟩; have HL2 := Aside0.mk (below_step HL1.out hb); have HX2 := Aside0.mk (blk_below HX1.out hb); have HY2 := Aside0.mk (blk_below HY1.out hb); obtain ⟨p2_0, p2_1, p2_2, p2_3, p2_4, p2_5, p2_6, p2_7, p2_8, p2_9⟩ := ten_cells HX2.out; obtain ⟨q2_0, q2_1, q2_2, q2_3, q2_4, q2_5, q2_6, q2_7, q2_8, q2_9⟩ := ten_cells HY2.out; clear hb) | (go_at_call 21; refine (eqClash_calls A3 n3 a.cls B3 m3 b.cls _ (Kd.C_below HC.out.c3 HL2.out) HC.out.m3 (Kd.C_below HD.out.c3 HL2.out) HD.out.m3).mono ?_; rw [HE3.out]; rintro e wl3 ⟨rfl, hb⟩; have HL3 := Aside0.mk (below_step HL2.out hb); have HX3 := Aside0.mk (blk_below HX2.out hb); have HY3 := Aside0.mk (blk_below HY2.out hb); obtain ⟨p3_0, p3_1, p3_2, p3_3, p3_4, p3_5, p3_6, p3_7, p3_8, p3_9⟩ := ten_cells HX3.out; obtain ⟨q3_0, q3_1, q3_2, q3_3, q3_4, q3_5, q3_6, q3_7, q3_8, q3_9⟩ := ten_cells HY3.out; clear hb) | (go_at_call 22; refine (eqRef_calls A5 n5 a.refs B5 m5 b.refs _ (Kd.C_below HC.out.c5 HL3.out) HC.out.m5 (Kd.C_below HD.out.c5 HL3.out) HD.out.m5).mono ?_; rw [HE4.out]; rintro e wl4 ⟨rfl, hb⟩; have HL4 := Aside0.mk (below_step HL3.out hb); have HX4 := Aside0.mk (blk_below HX3.out hb); have HY4 := Aside0.mk (blk_below HY3.out hb); obtain ⟨p4_0, p4_1, p4_2, p4_3, p4_4, p4_5, p4_6, p4_7, p4_8, p4_9⟩ := ten_cells HX4.out; obtain ⟨q4_0, q4_1, q4_2, q4_3, q4_4, q4_5, q4_6, q4_7, q4_8, q4_9⟩ := ten_cells HY4.out; clear hb))
      go_ret
      exact ⟨by simp [sameRp, HPL.out, HLS.out], HL4.out⟩
  · have HPL := Aside0.mk (show plainRp a b = false by simp only [plainRp]; simp [c1, c2, c3])
    go_upto_region 2 with (fail)
    clear c1 c2 c3
    rcases chain4 (oneL a.es b.es) (oneL a.chs b.chs) (oneL a.cls b.cls) (oneL a.refs b.refs) with e1 | ⟨e1, e2⟩ | ⟨e1, e2, e3⟩ | ⟨e1, e2, e3, e4⟩ | ⟨e1, e2, e3, e4⟩
    · have HLS := Aside0.mk (show listsRp a b = false by simp only [listsRp]; simp [e1])
      have HE1 := Aside0.mk e1
      clear e1
      go_wp2_with (first | (go_at_call 19; refine (eqEntry_calls A1 n1 a.es B1 m1 b.es _ (Kd.C_below HC.out.c1 HB0.out) HC.out.m1 (Kd.C_below HD.out.c1 HB0.out) HD.out.m1).mono ?_; rw [HE1.out]; rintro e wl1 ⟨rfl, hb⟩; have HL1 := Aside0.mk (below_step HB0.out hb); have HX1 := Aside0.mk (blk_below HX0.out hb); have HY1 := Aside0.mk (blk_below HY0.out hb); obtain ⟨p1_0, p1_1, p1_2, p1_3, p1_4, p1_5, p1_6, p1_7, p1_8, p1_9⟩ := ten_cells HX1.out; obtain ⟨q1_0, q1_1, q1_2, q1_3, q1_4, q1_5, q1_6, q1_7, q1_8, q1_9⟩ := ten_cells HY1.out; clear hb))
      go_ret
      exact ⟨by simp [sameRp, HPL.out, HLS.out], HL1.out⟩
    · have HLS := Aside0.mk (show listsRp a b = false by simp only [listsRp]; simp [e1, e2])
      have HE1 := Aside0.mk e1
      have HE2 := Aside0.mk e2
      clear e1 e2
      go_wp2_with (first | (go_at_call 19; refine (eqEntry_calls A1 n1 a.es B1 m1 b.es _ (Kd.C_below HC.out.c1 HB0.out) HC.out.m1 (Kd.C_below HD.out.c1 HB0.out) HD.out.m1).mono ?_; rw [HE1.out]; rintro e wl1 ⟨rfl, hb⟩; have HL1 := Aside0.mk (below_step HB0.out hb); have HX1 := Aside0.mk (blk_below HX0.out hb); have HY1 := Aside0.mk (blk_below HY0.out hb); obtain ⟨p1_0, p1_1, p1_2, p1_3, p1_4, p1_5, p1_6, p1_7, p1_8, p1_9⟩ := ten_cells HX1.out; obtain ⟨q1_0, q1_1, q1_2, q1_3, q1_4, q1_5, q1_6, q1_7, q1_8, q1_9⟩ := ten_cells HY1.out; clear hb) | (go_at_call 20; refine (eqChange_calls A2 n2 a.chs B2 m2 b.chs _ (Kd.C_below HC.out.c2 HL1.out) HC.out.m2 (Kd.C_below HD.out.c2 HL1.out) HD.out.m2).mono ?_; rw [HE2.out]; rintro e wl2 ⟨rfl, hb⟩; have HL2 := Aside0.mk (below_step HL1.out hb); have HX2 := Aside0.mk (blk_below HX1.out hb); have HY2 := Aside0.mk (blk_below HY1.out hb); obtain ⟨p2_0, p2_1, p2_2, p2_3, p2_4, p2_5, p2_6, p2_7, p2_8, p2_9⟩ := ten_cells HX2.out; obtain ⟨q2_0, q2_1, q2_2, q2_3, q2_4, q2_5, q2_6, q2_7, q2_8, q2_9⟩ := ten_cells HY2.out; clear hb))
      go_ret
      exact ⟨by simp [sameRp, HPL.out, HLS.out], HL2.out⟩
    · have HLS := Aside0.mk (show listsRp a b = false by simp only [listsRp]; simp [e1, e2, e3])
      have HE1 := Aside0.mk e1
      have HE2 := Aside0.mk e2
      have HE3 := Aside0.mk e3
      clear e1 e2 e3
      go_wp2_with (first | (go_at_call 19; refine (eqEntry_calls A1 n1 a.es B1 m1 b.es _ (Kd.C_below HC.out.c1 HB0.out) HC.out.m1 (Kd.C_below HD.out.c1 HB0.out) HD.out.m1).mono ?_; rw [HE1.out]; rintro e wl1 ⟨rfl, hb⟩; have HL1 := Aside0.mk (below_step HB0.out hb); have HX1 := Aside0.mk (blk_below HX0.out hb); have HY1 := Aside0.mk (blk_below HY0.out hb); obtain ⟨p1_0, p1_1, p1_2, p1_3, p1_4, p1_5, p1_6, p1_7, p1_8, p1_9⟩ := ten_cells HX1.out; obtain ⟨q1_0, q1_1, q1_2, q1_3, q1_4, q1_5, q1_6, q1_7, q1_8, q1_9⟩ := ten_cells HY1.out; clear hb) | (go_at_call 20; refine (eqChange_calls A2 n2 a.chs B2 m2 b.chs _ (Kd.C_below HC.out.c2 HL1.out) HC.out.m2 (Kd.C_below HD.out.c2 HL1.out) HD.out.m2).mono ?_; rw [HE2.out]; rintro e wl2 ⟨rfl, hb⟩; have HL2 := Aside0.mk (below_step HL1.out hb); have HX2 := Aside0.mk (blk_below HX1.out hb); have HY2 := Aside0.mk (blk_below HY1.out hb); obtain ⟨p2_0, p2_1, p2_2, p2_3, p2_4, p2_5, p2_6, p2_7, p2_8, p2_9⟩ := ten_cells HX2.out; obtain ⟨q2_0, q2_1, q2_2, q2_3, q2_4, q2_5, q2_6, q2_7, q2_8, q2_9⟩ := ten_cells HY2.out; clear hb) | (go_at_call 21; refine (eqClash_calls A3 n3 a.cls B3 m3 b.cls _ (Kd.C_below HC.out.c3 HL2.out) HC.out.m3 (Kd.C_below HD.out.c3 HL2.out) HD.out.m3).mono ?_; rw [HE3.out]; rintro e wl3 ⟨rfl, hb⟩; have HL3 := Aside0.mk (below_step HL2.out hb); have HX3 := Aside0.mk (blk_below HX2.out hb); have HY3 := Aside0.mk (blk_below HY2.out hb); obtain ⟨p3_0, p3_1, p3_2, p3_3, p3_4, p3_5, p3_6, p3_7, p3_8, p3_9⟩ := ten_cells HX3.out; obtain ⟨q3_0, q3_1, q3_2, q3_3, q3_4, q3_5, q3_6, q3_7, q3_8, q3_9⟩ := ten_cells HY3.out; clear hb))
      go_ret
      exact ⟨by simp [sameRp, HPL.out, HLS.out], HL3.out⟩
    · have HLS := Aside0.mk (show listsRp a b = false by simp only [listsRp]; simp [e1, e2, e3, e4])
      have HE1 := Aside0.mk e1
      have HE2 := Aside0.mk e2
      have HE3 := Aside0.mk e3
      have HE4 := Aside0.mk e4
      clear e1 e2 e3 e4
      go_wp2_with (first | (go_at_call 19; refine (eqEntry_calls A1 n1 a.es B1 m1 b.es _ (Kd.C_below HC.out.c1 HB0.out) HC.out.m1 (Kd.C_below HD.out.c1 HB0.out) HD.out.m1).mono ?_; rw [HE1.out]; rintro e wl1 ⟨rfl, hb⟩; have HL1 := Aside0.mk (below_step HB0.out hb); have HX1 := Aside0.mk (blk_below HX0.out hb); have HY1 := Aside0.mk (blk_below HY0.out hb); obtain ⟨p1_0, p1_1, p1_2, p1_3, p1_4, p1_5, p1_6, p1_7, p1_8, p1_9⟩ := ten_cells HX1.out; obtain ⟨q1_0, q1_1, q1_2, q1_3, q1_4, q1_5, q1_6, q1_7, q1_8, q1_9⟩ := ten_cells HY1.out; clear hb) | (go_at_call 20; refine (eqChange_calls A2 n2 a.chs B2 m2 b.chs _ (Kd.C_below HC.out.c2 HL1.out) HC.out.m2 (Kd.C_below HD.out.c2 HL1.out) HD.out.m2).mono ?_; rw [HE2.out]; rintro e wl2 ⟨rfl, hb⟩; have HL2 := Aside0.mk (below_step HL1.out hb); have HX2 := Aside0.mk (blk_below HX1.out hb); have HY2 := Aside0.mk (blk_below HY1.out hb); obtain ⟨p2_0, p2_1, p2_2, p2_3, p2_4, p2_5, p2_6, p2_7, p2_8, p2_9⟩ := ten_cells HX2.out; obtain ⟨q2_0, q2_1, q2_2, q2_3, q2_4, q2_5, q2_6, q2_7, q2_8, q2_9⟩ := ten_cells HY2.out; clear hb) | (go_at_call 21; refine (eqClash_calls A3 n3 a.cls B3 m3 b.cls _ (Kd.C_below HC.out.c3 HL2.out) HC.out.m3 (Kd.C_below HD.out.c3 HL2.out) HD.out.m3).mono ?_; rw [HE3.out]; rintro e wl3 ⟨rfl, hb⟩; have HL3 := Aside0.mk (below_step HL2.out hb); have HX3 := Aside0.mk (blk_below HX2.out hb); have HY3 := Aside0.mk (blk_below HY2.out hb); obtain ⟨p3_0, p3_1, p3_2, p3_3, p3_4, p3_5, p3_6, p3_7, p3_8, p3_9⟩ := ten_cells HX3.out; obtain ⟨q3_0, q3_1, q3_2, q3_3, q3_4, q3_5, q3_6, q3_7, q3_8, q3_9⟩ := ten_cells HY3.out; clear hb) | (go_at_call 22; refine (eqRef_calls A5 n5 a.refs B5 m5 b.refs _ (Kd.C_below HC.out.c5 HL3.out) HC.out.m5 (Kd.C_below HD.out.c5 HL3.out) HD.out.m5).mono ?_; rw [HE4.out]; rintro e wl4 ⟨rfl, hb⟩; have HL4 := Aside0.mk (below_step HL3.out hb); have HX4 := Aside0.mk (blk_below HX3.out hb); have HY4 := Aside0.mk (blk_below HY3.out hb); obtain ⟨p4_0, p4_1, p4_2, p4_3, p4_4, p4_5, p4_6, p4_7, p4_8, p4_9⟩ := ten_cells HX4.out; obtain ⟨q4_0, q4_1, q4_2, q4_3, q4_4, q4_5, q4_6, q4_7, q4_8, q4_9⟩ := ten_cells HY4.out; clear hb))
      go_ret
      exact ⟨by simp [sameRp, HPL.out, HLS.out], HL4.out⟩
    · have HLS := Aside0.mk (show listsRp a b = true by simp only [listsRp]; simp [e1, e2, e3, e4])
      have HE1 := Aside0.mk e1
      have HE2 := Aside0.mk e2
      have HE3 := Aside0.mk e3
      have HE4 := Aside0.mk e4
      clear e1 e2 e3 e4
      go_wp2_with (first | (go_at_call 19; refine (eqEntry_calls A1 n1 a.es B1 m1 b.es _ (Kd.C_below HC.out.c1 HB0.out) HC.out.m1 (Kd.C_below HD.out.c1 HB0.out) HD.out.m1).mono ?_; rw [HE1.out]; rintro e wl1 ⟨rfl, hb⟩; have HL1 := Aside0.mk (below_step HB0.out hb); have HX1 := Aside0.mk (blk_below HX0.out hb); have HY1 := Aside0.mk (blk_below HY0.out hb); obtain ⟨p1_0, p1_1, p1_2, p1_3, p1_4, p1_5, p1_6, p1_7, p1_8, p1_9⟩ := ten_cells HX1.out; obtain ⟨q1_0, q1_1, q1_2, q1_3, q1_4, q1_5, q1_6, q1_7, q1_8, q1_9⟩ := ten_cells HY1.out; clear hb) | (go_at_call 20; refine (eqChange_calls A2 n2 a.chs B2 m2 b.chs _ (Kd.C_below HC.out.c2 HL1.out) HC.out.m2 (Kd.C_below HD.out.c2 HL1.out) HD.out.m2).mono ?_; rw [HE2.out]; rintro e wl2 ⟨rfl, hb⟩; have HL2 := Aside0.mk (below_step HL1.out hb); have HX2 := Aside0.mk (blk_below HX1.out hb); have HY2 := Aside0.mk (blk_below HY1.out hb); obtain ⟨p2_0, p2_1, p2_2, p2_3, p2_4, p2_5, p2_6, p2_7, p2_8, p2_9⟩ := ten_cells HX2.out; obtain ⟨q2_0, q2_1, q2_2, q2_3, q2_4, q2_5, q2_6, q2_7, q2_8, q2_9⟩ := ten_cells HY2.out; clear hb) | (go_at_call 21; refine (eqClash_calls A3 n3 a.cls B3 m3 b.cls _ (Kd.C_below HC.out.c3 HL2.out) HC.out.m3 (Kd.C_below HD.out.c3 HL2.out) HD.out.m3).mono ?_; rw [HE3.out]; rintro e wl3 ⟨rfl, hb⟩; have HL3 := Aside0.mk (below_step HL2.out hb); have HX3 := Aside0.mk (blk_below HX2.out hb); have HY3 := Aside0.mk (blk_below HY2.out hb); obtain ⟨p3_0, p3_1, p3_2, p3_3, p3_4, p3_5, p3_6, p3_7, p3_8, p3_9⟩ := ten_cells HX3.out; obtain ⟨q3_0, q3_1, q3_2, q3_3, q3_4, q3_5, q3_6, q3_7, q3_8, q3_9⟩ := ten_cells HY3.out; clear hb) | (go_at_call 22; refine (eqRef_calls A5 n5 a.refs B5 m5 b.refs _ (Kd.C_below HC.out.c5 HL3.out) HC.out.m5 (Kd.C_below HD.out.c5 HL3.out) HD.out.m5).mono ?_; rw [HE4.out]; rintro e wl4 ⟨rfl, hb⟩; have HL4 := Aside0.mk (below_step HL3.out hb); have HX4 := Aside0.mk (blk_below HX3.out hb); have HY4 := Aside0.mk (blk_below HY3.out hb); obtain ⟨p4_0, p4_1, p4_2, p4_3, p4_4, p4_5, p4_6, p4_7, p4_8, p4_9⟩ := ten_cells HX4.out; obtain ⟨q4_0, q4_1, q4_2, q4_3, q4_4, q4_5, q4_6, q4_7, q4_8, q4_9⟩ := ten_cells HY4.out; clear hb))
      go_ret
      exact ⟨by simp [sameRp, HPL.out, HLS.out], HL4.out⟩
  · have HPL := Aside0.mk (show plainRp a b = false by simp only [plainRp]; simp [c1, c2, c3, c4])
    go_upto_region 2 with (fail)
    clear c1 c2 c3 c4
    rcases chain4 (oneL a.es b.es) (oneL a.chs b.chs) (oneL a.cls b.cls) (oneL a.refs b.refs) with e1 | ⟨e1, e2⟩ | ⟨e1, e2, e3⟩ | ⟨e1, e2, e3, e4⟩ | ⟨e1, e2, e3, e4⟩
    · have HLS := Aside0.mk (show listsRp a b = false by simp only [listsRp]; simp [e1])
      have HE1 := Aside0.mk e1
      clear e1
      go_wp2_with (first | (go_at_call 19; refine (eqEntry_calls A1 n1 a.es B1 m1 b.es _ (Kd.C_below HC.out.c1 HB0.out) HC.out.m1 (Kd.C_below HD.out.c1 HB0.out) HD.out.m1).mono ?_; rw [HE1.out]; rintro e wl1 ⟨rfl, hb⟩; have HL1 := Aside0.mk (below_step HB0.out hb); have HX1 := Aside0.mk (blk_below HX0.out hb); have HY1 := Aside0.mk (blk_below HY0.out hb); obtain ⟨p1_0, p1_1, p1_2, p1_3, p1_4, p1_5, p1_6, p1_7, p1_8, p1_9⟩ := ten_cells HX1.out; obtain ⟨q1_0, q1_1, q1_2, q1_3, q1_4, q1_5, q1_6, q1_7, q1_8, q1_9⟩ := ten_cells HY1.out; clear hb))
      go_ret
      exact ⟨by simp [sameRp, HPL.out, HLS.out], HL1.out⟩
    · have HLS := Aside0.mk (show listsRp a b = false by simp only [listsRp]; simp [e1, e2])
      have HE1 := Aside0.mk e1
      have HE2 := Aside0.mk e2
      clear e1 e2
      go_wp2_with (first | (go_at_call 19; refine (eqEntry_calls A1 n1 a.es B1 m1 b.es _ (Kd.C_below HC.out.c1 HB0.out) HC.out.m1 (Kd.C_below HD.out.c1 HB0.out) HD.out.m1).mono ?_; rw [HE1.out]; rintro e wl1 ⟨rfl, hb⟩; have HL1 := Aside0.mk (below_step HB0.out hb); have HX1 := Aside0.mk (blk_below HX0.out hb); have HY1 := Aside0.mk (blk_below HY0.out hb); obtain ⟨p1_0, p1_1, p1_2, p1_3, p1_4, p1_5, p1_6, p1_7, p1_8, p1_9⟩ := ten_cells HX1.out; obtain ⟨q1_0, q1_1, q1_2, q1_3, q1_4, q1_5, q1_6, q1_7, q1_8, q1_9⟩ := ten_cells HY1.out; clear hb) | (go_at_call 20; refine (eqChange_calls A2 n2 a.chs B2 m2 b.chs _ (Kd.C_below HC.out.c2 HL1.out) HC.out.m2 (Kd.C_below HD.out.c2 HL1.out) HD.out.m2).mono ?_; rw [HE2.out]; rintro e wl2 ⟨rfl, hb⟩; have HL2 := Aside0.mk (below_step HL1.out hb); have HX2 := Aside0.mk (blk_below HX1.out hb); have HY2 := Aside0.mk (blk_below HY1.out hb); obtain ⟨p2_0, p2_1, p2_2, p2_3, p2_4, p2_5, p2_6, p2_7, p2_8, p2_9⟩ := ten_cells HX2.out; obtain ⟨q2_0, q2_1, q2_2, q2_3, q2_4, q2_5, q2_6, q2_7, q2_8, q2_9⟩ := ten_cells HY2.out; clear hb))
      go_ret
      exact ⟨by simp [sameRp, HPL.out, HLS.out], HL2.out⟩
    · have HLS := Aside0.mk (show listsRp a b = false by simp only [listsRp]; simp [e1, e2, e3])
      have HE1 := Aside0.mk e1
      have HE2 := Aside0.mk e2
      have HE3 := Aside0.mk e3
      clear e1 e2 e3
      go_wp2_with (first | (go_at_call 19; refine (eqEntry_calls A1 n1 a.es B1 m1 b.es _ (Kd.C_below HC.out.c1 HB0.out) HC.out.m1 (Kd.C_below HD.out.c1 HB0.out) HD.out.m1).mono ?_; rw [HE1.out]; rintro e wl1 ⟨rfl, hb⟩; have HL1 := Aside0.mk (below_step HB0.out hb); have HX1 := Aside0.mk (blk_below HX0.out hb); have HY1 := Aside0.mk (blk_below HY0.out hb); obtain ⟨p1_0, p1_1, p1_2, p1_3, p1_4, p1_5, p1_6, p1_7, p1_8, p1_9⟩ := ten_cells HX1.out; obtain ⟨q1_0, q1_1, q1_2, q1_3, q1_4, q1_5, q1_6, q1_7, q1_8, q1_9⟩ := ten_cells HY1.out; clear hb) | (go_at_call 20; refine (eqChange_calls A2 n2 a.chs B2 m2 b.chs _ (Kd.C_below HC.out.c2 HL1.out) HC.out.m2 (Kd.C_below HD.out.c2 HL1.out) HD.out.m2).mono ?_; rw [HE2.out]; rintro e wl2 ⟨rfl, hb⟩; have HL2 := Aside0.mk (below_step HL1.out hb); have HX2 := Aside0.mk (blk_below HX1.out hb); have HY2 := Aside0.mk (blk_below HY1.out hb); obtain ⟨p2_0, p2_1, p2_2, p2_3, p2_4, p2_5, p2_6, p2_7, p2_8, p2_9⟩ := ten_cells HX2.out; obtain ⟨q2_0, q2_1, q2_2, q2_3, q2_4, q2_5, q2_6, q2_7, q2_8, q2_9⟩ := ten_cells HY2.out; clear hb) | (go_at_call 21; refine (eqClash_calls A3 n3 a.cls B3 m3 b.cls _ (Kd.C_below HC.out.c3 HL2.out) HC.out.m3 (Kd.C_below HD.out.c3 HL2.out) HD.out.m3).mono ?_; rw [HE3.out]; rintro e wl3 ⟨rfl, hb⟩; have HL3 := Aside0.mk (below_step HL2.out hb); have HX3 := Aside0.mk (blk_below HX2.out hb); have HY3 := Aside0.mk (blk_below HY2.out hb); obtain ⟨p3_0, p3_1, p3_2, p3_3, p3_4, p3_5, p3_6, p3_7, p3_8, p3_9⟩ := ten_cells HX3.out; obtain ⟨q3_0, q3_1, q3_2, q3_3, q3_4, q3_5, q3_6, q3_7, q3_8, q3_9⟩ := ten_cells HY3.out; clear hb))
      go_ret
      exact ⟨by simp [sameRp, HPL.out, HLS.out], HL3.out⟩
    · have HLS := Aside0.mk (show listsRp a b = false by simp only [listsRp]; simp [e1, e2, e3, e4])
      have HE1 := Aside0.mk e1
      have HE2 := Aside0.mk e2
      have HE3 := Aside0.mk e3
      have HE4 := Aside0.mk e4
      clear e1 e2 e3 e4
      go_wp2_with (first | (go_at_call 19; refine (eqEntry_calls A1 n1 a.es B1 m1 b.es _ (Kd.C_below HC.out.c1 HB0.out) HC.out.m1 (Kd.C_below HD.out.c1 HB0.out) HD.out.m1).mono ?_; rw [HE1.out]; rintro e wl1 ⟨rfl, hb⟩; have HL1 := Aside0.mk (below_step HB0.out hb); have HX1 := Aside0.mk (blk_below HX0.out hb); have HY1 := Aside0.mk (blk_below HY0.out hb); obtain ⟨p1_0, p1_1, p1_2, p1_3, p1_4, p1_5, p1_6, p1_7, p1_8, p1_9⟩ := ten_cells HX1.out; obtain ⟨q1_0, q1_1, q1_2, q1_3, q1_4, q1_5, q1_6, q1_7, q1_8, q1_9⟩ := ten_cells HY1.out; clear hb) | (go_at_call 20; refine (eqChange_calls A2 n2 a.chs B2 m2 b.chs _ (Kd.C_below HC.out.c2 HL1.out) HC.out.m2 (Kd.C_below HD.out.c2 HL1.out) HD.out.m2).mono ?_; rw [HE2.out]; rintro e wl2 ⟨rfl, hb⟩; have HL2 := Aside0.mk (below_step HL1.out hb); have HX2 := Aside0.mk (blk_below HX1.out hb); have HY2 := Aside0.mk (blk_below HY1.out hb); obtain ⟨p2_0, p2_1, p2_2, p2_3, p2_4, p2_5, p2_6, p2_7, p2_8, p2_9⟩ := ten_cells HX2.out; obtain ⟨q2_0, q2_1, q2_2, q2_3, q2_4, q2_5, q2_6, q2_7, q2_8, q2_9⟩ := ten_cells HY2.out; clear hb) | (go_at_call 21; refine (eqClash_calls A3 n3 a.cls B3 m3 b.cls _ (Kd.C_below HC.out.c3 HL2.out) HC.out.m3 (Kd.C_below HD.out.c3 HL2.out) HD.out.m3).mono ?_; rw [HE3.out]; rintro e wl3 ⟨rfl, hb⟩; have HL3 := Aside0.mk (below_step HL2.out hb); have HX3 := Aside0.mk (blk_below HX2.out hb); have HY3 := Aside0.mk (blk_below HY2.out hb); obtain ⟨p3_0, p3_1, p3_2, p3_3, p3_4, p3_5, p3_6, p3_7, p3_8, p3_9⟩ := ten_cells HX3.out; obtain ⟨q3_0, q3_1, q3_2, q3_3, q3_4, q3_5, q3_6, q3_7, q3_8, q3_9⟩ := ten_cells HY3.out; clear hb) | (go_at_call 22; refine (eqRef_calls A5 n5 a.refs B5 m5 b.refs _ (Kd.C_below HC.out.c5 HL3.out) HC.out.m5 (Kd.C_below HD.out.c5 HL3.out) HD.out.m5).mono ?_; rw [HE4.out]; rintro e wl4 ⟨rfl, hb⟩; have HL4 := Aside0.mk (below_step HL3.out hb); have HX4 := Aside0.mk (blk_below HX3.out hb); have HY4 := Aside0.mk (blk_below HY3.out hb); obtain ⟨p4_0, p4_1, p4_2, p4_3, p4_4, p4_5, p4_6, p4_7, p4_8, p4_9⟩ := ten_cells HX4.out; obtain ⟨q4_0, q4_1, q4_2, q4_3, q4_4, q4_5, q4_6, q4_7, q4_8, q4_9⟩ := ten_cells HY4.out; clear hb))
      go_ret
      exact ⟨by simp [sameRp, HPL.out, HLS.out], HL4.out⟩
    · have HLS := Aside0.mk (show listsRp a b = true by simp only [listsRp]; simp [e1, e2, e3, e4])
      have HE1 := Aside0.mk e1
      have HE2 := Aside0.mk e2
      have HE3 := Aside0.mk e3
      have HE4 := Aside0.mk e4
      clear e1 e2 e3 e4
      go_wp2_with (first | (go_at_call 19; refine (eqEntry_calls A1 n1 a.es B1 m1 b.es _ (Kd.C_below HC.out.c1 HB0.out) HC.out.m1 (Kd.C_below HD.out.c1 HB0.out) HD.out.m1).mono ?_; rw [HE1.out]; rintro e wl1 ⟨rfl, hb⟩; have HL1 := Aside0.mk (below_step HB0.out hb); have HX1 := Aside0.mk (blk_below HX0.out hb); have HY1 := Aside0.mk (blk_below HY0.out hb); obtain ⟨p1_0, p1_1, p1_2, p1_3, p1_4, p1_5, p1_6, p1_7, p1_8, p1_9⟩ := ten_cells HX1.out; obtain ⟨q1_0, q1_1, q1_2, q1_3, q1_4, q1_5, q1_6, q1_7, q1_8, q1_9⟩ := ten_cells HY1.out; clear hb) | (go_at_call 20; refine (eqChange_calls A2 n2 a.chs B2 m2 b.chs _ (Kd.C_below HC.out.c2 HL1.out) HC.out.m2 (Kd.C_below HD.out.c2 HL1.out) HD.out.m2).mono ?_; rw [HE2.out]; rintro e wl2 ⟨rfl, hb⟩; have HL2 := Aside0.mk (below_step HL1.out hb); have HX2 := Aside0.mk (blk_below HX1.out hb); have HY2 := Aside0.mk (blk_below HY1.out hb); obtain ⟨p2_0, p2_1, p2_2, p2_3, p2_4, p2_5, p2_6, p2_7, p2_8, p2_9⟩ := ten_cells HX2.out; obtain ⟨q2_0, q2_1, q2_2, q2_3, q2_4, q2_5, q2_6, q2_7, q2_8, q2_9⟩ := ten_cells HY2.out; clear hb) | (go_at_call 21; refine (eqClash_calls A3 n3 a.cls B3 m3 b.cls _ (Kd.C_below HC.out.c3 HL2.out) HC.out.m3 (Kd.C_below HD.out.c3 HL2.out) HD.out.m3).mono ?_; rw [HE3.out]; rintro e wl3 ⟨rfl, hb⟩; have HL3 := Aside0.mk (below_step HL2.out hb); have HX3 := Aside0.mk (blk_below HX2.out hb); have HY3 := Aside0.mk (blk_below HY2.out hb); obtain ⟨p3_0, p3_1, p3_2, p3_3, p3_4, p3_5, p3_6, p3_7, p3_8, p3_9⟩ := ten_cells HX3.out; obtain ⟨q3_0, q3_1, q3_2, q3_3, q3_4, q3_5, q3_6, q3_7, q3_8, q3_9⟩ := ten_cells HY3.out; clear hb) | (go_at_call 22; refine (eqRef_calls A5 n5 a.refs B5 m5 b.refs _ (Kd.C_below HC.out.c5 HL3.out) HC.out.m5 (Kd.C_below HD.out.c5 HL3.out) HD.out.m5).mono ?_; rw [HE4.out]; rintro e wl4 ⟨rfl, hb⟩; have HL4 := Aside0.mk (below_step HL3.out hb); have HX4 := Aside0.mk (blk_below HX3.out hb); have HY4 := Aside0.mk (blk_below HY3.out hb); obtain ⟨p4_0, p4_1, p4_2, p4_3, p4_4, p4_5, p4_6, p4_7, p4_8, p4_9⟩ := ten_cells HX4.out; obtain ⟨q4_0, q4_1, q4_2, q4_3, q4_4, q4_5, q4_6, q4_7, q4_8, q4_9⟩ := ten_cells HY4.out; clear hb))
      go_ret
      exact ⟨by simp [sameRp, HPL.out, HLS.out], HL4.out⟩
  · have HPL := Aside0.mk (show plainRp a b = false by simp only [plainRp]; simp [c1, c2, c3, c4, c5])
    go_upto_region 2 with (fail)
    clear c1 c2 c3 c4 c5
    rcases chain4 (oneL a.es b.es) (oneL a.chs b.chs) (oneL a.cls b.cls) (oneL a.refs b.refs) with e1 | ⟨e1, e2⟩ | ⟨e1, e2, e3⟩ | ⟨e1, e2, e3, e4⟩ | ⟨e1, e2, e3, e4⟩
    · have HLS := Aside0.mk (show listsRp a b = false by simp only [listsRp]; simp [e1])
      have HE1 := Aside0.mk e1
      clear e1
      go_wp2_with (first | (go_at_call 19; refine (eqEntry_calls A1 n1 a.es B1 m1 b.es _ (Kd.C_below HC.out.c1 HB0.out) HC.out.m1 (Kd.C_below HD.out.c1 HB0.out) HD.out.m1).mono ?_; rw [HE1.out]; rintro e wl1 ⟨rfl, hb⟩; have HL1 := Aside0.mk (below_step HB0.out hb); have HX1 := Aside0.mk (blk_below HX0.out hb); have HY1 := Aside0.mk (blk_below HY0.out hb); obtain ⟨p1_0, p1_1, p1_2, p1_3, p1_4, p1_5, p1_6, p1_7, p1_8, p1_9⟩ := ten_cells HX1.out; obtain ⟨q1_0, q1_1, q1_2, q1_3, q1_4, q1_5, q1_6, q1_7, q1_8, q1_9⟩ := ten_cells HY1.out; clear hb))
      go_ret
      exact ⟨by simp [sameRp, HPL.out, HLS.out], HL1.out⟩
    · have HLS := Aside0.mk (show listsRp a b = false by simp only [listsRp]; simp [e1, e2])
      have HE1 := Aside0.mk e1
      have HE2 := Aside0.mk e2
      clear e1 e2
      go_wp2_with (first | (go_at_call 19; refine (eqEntry_calls A1 n1 a.es B1 m1 b.es _ (Kd.C_below HC.out.c1 HB0.out) HC.out.m1 (Kd.C_below HD.out.c1 HB0.out) HD.out.m1).mono ?_; rw [HE1.out]; rintro e wl1 ⟨rfl, hb⟩; have HL1 := Aside0.mk (below_step HB0.out hb); have HX1 := Aside0.mk (blk_below HX0.out hb); have HY1 := Aside0.mk (blk_below HY0.out hb); obtain ⟨p1_0, p1_1, p1_2, p1_3, p1_4, p1_5, p1_6, p1_7, p1_8, p1_9⟩ := ten_cells HX1.out; obtain ⟨q1_0, q1_1, q1_2, q1_3, q1_4, q1_5, q1_6, q1_7, q1_8, q1_9⟩ := ten_cells HY1.out; clear hb) | (go_at_call 20; refine (eqChange_calls A2 n2 a.chs B2 m2 b.chs _ (Kd.C_below HC.out.c2 HL1.out) HC.out.m2 (Kd.C_below HD.out.c2 HL1.out) HD.out.m2).mono ?_; rw [HE2.out]; rintro e wl2 ⟨rfl, hb⟩; have HL2 := Aside0.mk (below_step HL1.out hb); have HX2 := Aside0.mk (blk_below HX1.out hb); have HY2 := Aside0.mk (blk_below HY1.out hb); obtain ⟨p2_0, p2_1, p2_2, p2_3, p2_4, p2_5, p2_6, p2_7, p2_8, p2_9⟩ := ten_cells HX2.out; obtain ⟨q2_0, q2_1, q2_2, q2_3, q2_4, q2_5, q2_6, q2_7, q2_8, q2_9⟩ := ten_cells HY2.out; clear hb))
      go_ret
      exact ⟨by simp [sameRp, HPL.out, HLS.out], HL2.out⟩
    · have HLS := Aside0.mk (show listsRp a b = false by simp only [listsRp]; simp [e1, e2, e3])
      have HE1 := Aside0.mk e1
      have HE2 := Aside0.mk e2
      have HE3 := Aside0.mk e3
      clear e1 e2 e3
      go_wp2_with (first | (go_at_call 19; refine (eqEntry_calls A1 n1 a.es B1 m1 b.es _ (Kd.C_below HC.out.c1 HB0.out) HC.out.m1 (Kd.C_below HD.out.c1 HB0.out) HD.out.m1).mono ?_; rw [HE1.out]; rintro e wl1 ⟨rfl, hb⟩; have HL1 := Aside0.mk (below_step HB0.out hb); have HX1 := Aside0.mk (blk_below HX0.out hb); have HY1 := Aside0.mk (blk_below HY0.out hb); obtain ⟨p1_0, p1_1, p1_2, p1_3, p1_4, p1_5, p1_6, p1_7, p1_8, p1_9⟩ := ten_cells HX1.out; obtain ⟨q1_0, q1_1, q1_2, q1_3, q1_4, q1_5, q1_6, q1_7, q1_8, q1_9⟩ := ten_cells HY1.out; clear hb) | (go_at_call 20; refine (eqChange_calls A2 n2 a.chs B2 m2 b.chs _ (Kd.C_below HC.out.c2 HL1.out) HC.out.m2 (Kd.C_below HD.out.c2 HL1.out) HD.out.m2).mono ?_; rw [HE2.out]; rintro e wl2 ⟨rfl, hb⟩; have HL2 := Aside0.mk (below_step HL1.out hb); have HX2 := Aside0.mk (blk_below HX1.out hb); have HY2 := Aside0.mk (blk_below HY1.out hb); obtain ⟨p2_0, p2_1, p2_2, p2_3, p2_4, p2_5, p2_6, p2_7, p2_8, p2_9⟩ := ten_cells HX2.out; obtain ⟨q2_0, q2_1, q2_2, q2_3, q2_4, q2_5, q2_6, q2_7, q2_8, q2_9⟩ := ten_cells HY2.out; clear hb) | (go_at_call 21; refine (eqClash_calls A3 n3 a.cls B3 m3 b.cls _ (Kd.C_below HC.out.c3 HL2.out) HC.out.m3 (Kd.C_below HD.out.c3 HL2.out) HD.out.m3).mono ?_; rw [HE3.out]; rintro e wl3 ⟨rfl, hb⟩; have HL3 := Aside0.mk (below_step HL2.out hb); have HX3 := Aside0.mk (blk_below HX2.out hb); have HY3 := Aside0.mk (blk_below HY2.out hb); obtain ⟨p3_0, p3_1, p3_2, p3_3, p3_4, p3_5, p3_6, p3_7, p3_8, p3_9⟩ := ten_cells HX3.out; obtain ⟨q3_0, q3_1, q3_2, q3_3, q3_4, q3_5, q3_6, q3_7, q3_8, q3_9⟩ := ten_cells HY3.out; clear hb))
      go_ret
      exact ⟨by simp [sameRp, HPL.out, HLS.out], HL3.out⟩
    · have HLS := Aside0.mk (show listsRp a b = false by simp only [listsRp]; simp [e1, e2, e3, e4])
      have HE1 := Aside0.mk e1
      have HE2 := Aside0.mk e2
      have HE3 := Aside0.mk e3
      have HE4 := Aside0.mk e4
      clear e1 e2 e3 e4
      go_wp2_with (first | (go_at_call 19; refine (eqEntry_calls A1 n1 a.es B1 m1 b.es _ (Kd.C_below HC.out.c1 HB0.out) HC.out.m1 (Kd.C_below HD.out.c1 HB0.out) HD.out.m1).mono ?_; rw [HE1.out]; rintro e wl1 ⟨rfl, hb⟩; have HL1 := Aside0.mk (below_step HB0.out hb); have HX1 := Aside0.mk (blk_below HX0.out hb); have HY1 := Aside0.mk (blk_below HY0.out hb); obtain ⟨p1_0, p1_1, p1_2, p1_3, p1_4, p1_5, p1_6, p1_7, p1_8, p1_9⟩ := ten_cells HX1.out; obtain ⟨q1_0, q1_1, q1_2, q1_3, q1_4, q1_5, q1_6, q1_7, q1_8, q1_9⟩ := ten_cells HY1.out; clear hb) | (go_at_call 20; refine (eqChange_calls A2 n2 a.chs B2 m2 b.chs _ (Kd.C_below HC.out.c2 HL1.out) HC.out.m2 (Kd.C_below HD.out.c2 HL1.out) HD.out.m2).mono ?_; rw [HE2.out]; rintro e wl2 ⟨rfl, hb⟩; have HL2 := Aside0.mk (below_step HL1.out hb); have HX2 := Aside0.mk (blk_below HX1.out hb); have HY2 := Aside0.mk (blk_below HY1.out hb); obtain ⟨p2_0, p2_1, p2_2, p2_3, p2_4, p2_5, p2_6, p2_7, p2_8, p2_9⟩ := ten_cells HX2.out; obtain ⟨q2_0, q2_1, q2_2, q2_3, q2_4, q2_5, q2_6, q2_7, q2_8, q2_9⟩ := ten_cells HY2.out; clear hb) | (go_at_call 21; refine (eqClash_calls A3 n3 a.cls B3 m3 b.cls _ (Kd.C_below HC.out.c3 HL2.out) HC.out.m3 (Kd.C_below HD.out.c3 HL2.out) HD.out.m3).mono ?_; rw [HE3.out]; rintro e wl3 ⟨rfl, hb⟩; have HL3 := Aside0.mk (below_step HL2.out hb); have HX3 := Aside0.mk (blk_below HX2.out hb); have HY3 := Aside0.mk (blk_below HY2.out hb); obtain ⟨p3_0, p3_1, p3_2, p3_3, p3_4, p3_5, p3_6, p3_7, p3_8, p3_9⟩ := ten_cells HX3.out; obtain ⟨q3_0, q3_1, q3_2, q3_3, q3_4, q3_5, q3_6, q3_7, q3_8, q3_9⟩ := ten_cells HY3.out; clear hb) | (go_at_call 22; refine (eqRef_calls A5 n5 a.refs B5 m5 b.refs _ (Kd.C_below HC.out.c5 HL3.out) HC.out.m5 (Kd.C_below HD.out.c5 HL3.out) HD.out.m5).mono ?_; rw [HE4.out]; rintro e wl4 ⟨rfl, hb⟩; have HL4 := Aside0.mk (below_step HL3.out hb); have HX4 := Aside0.mk (blk_below HX3.out hb); have HY4 := Aside0.mk (blk_below HY3.out hb); obtain ⟨p4_0, p4_1, p4_2, p4_3, p4_4, p4_5, p4_6, p4_7, p4_8, p4_9⟩ := ten_cells HX4.out; obtain ⟨q4_0, q4_1, q4_2, q4_3, q4_4, q4_5, q4_6, q4_7, q4_8, q4_9⟩ := ten_cells HY4.out; clear hb))
      go_ret
      exact ⟨by simp [sameRp, HPL.out, HLS.out], HL4.out⟩
    · have HLS := Aside0.mk (show listsRp a b = true by simp only [listsRp]; simp [e1, e2, e3, e4])
      have HE1 := Aside0.mk e1
      have HE2 := Aside0.mk e2
      have HE3 := Aside0.mk e3
      have HE4 := Aside0.mk e4
      clear e1 e2 e3 e4
      go_wp2_with (first | (go_at_call 19; refine (eqEntry_calls A1 n1 a.es B1 m1 b.es _ (Kd.C_below HC.out.c1 HB0.out) HC.out.m1 (Kd.C_below HD.out.c1 HB0.out) HD.out.m1).mono ?_; rw [HE1.out]; rintro e wl1 ⟨rfl, hb⟩; have HL1 := Aside0.mk (below_step HB0.out hb); have HX1 := Aside0.mk (blk_below HX0.out hb); have HY1 := Aside0.mk (blk_below HY0.out hb); obtain ⟨p1_0, p1_1, p1_2, p1_3, p1_4, p1_5, p1_6, p1_7, p1_8, p1_9⟩ := ten_cells HX1.out; obtain ⟨q1_0, q1_1, q1_2, q1_3, q1_4, q1_5, q1_6, q1_7, q1_8, q1_9⟩ := ten_cells HY1.out; clear hb) | (go_at_call 20; refine (eqChange_calls A2 n2 a.chs B2 m2 b.chs _ (Kd.C_below HC.out.c2 HL1.out) HC.out.m2 (Kd.C_below HD.out.c2 HL1.out) HD.out.m2).mono ?_; rw [HE2.out]; rintro e wl2 ⟨rfl, hb⟩; have HL2 := Aside0.mk (below_step HL1.out hb); have HX2 := Aside0.mk (blk_below HX1.out hb); have HY2 := Aside0.mk (blk_below HY1.out hb); obtain ⟨p2_0, p2_1, p2_2, p2_3, p2_4, p2_5, p2_6, p2_7, p2_8, p2_9⟩ := ten_cells HX2.out; obtain ⟨q2_0, q2_1, q2_2, q2_3, q2_4, q2_5, q2_6, q2_7, q2_8, q2_9⟩ := ten_cells HY2.out; clear hb) | (go_at_call 21; refine (eqClash_calls A3 n3 a.cls B3 m3 b.cls _ (Kd.C_below HC.out.c3 HL2.out) HC.out.m3 (Kd.C_below HD.out.c3 HL2.out) HD.out.m3).mono ?_; rw [HE3.out]; rintro e wl3 ⟨rfl, hb⟩; have HL3 := Aside0.mk (below_step HL2.out hb); have HX3 := Aside0.mk (blk_below HX2.out hb); have HY3 := Aside0.mk (blk_below HY2.out hb); obtain ⟨p3_0, p3_1, p3_2, p3_3, p3_4, p3_5, p3_6, p3_7, p3_8, p3_9⟩ := ten_cells HX3.out; obtain ⟨q3_0, q3_1, q3_2, q3_3, q3_4, q3_5, q3_6, q3_7, q3_8, q3_9⟩ := ten_cells HY3.out; clear hb) | (go_at_call 22; refine (eqRef_calls A5 n5 a.refs B5 m5 b.refs _ (Kd.C_below HC.out.c5 HL3.out) HC.out.m5 (Kd.C_below HD.out.c5 HL3.out) HD.out.m5).mono ?_; rw [HE4.out]; rintro e wl4 ⟨rfl, hb⟩; have HL4 := Aside0.mk (below_step HL3.out hb); have HX4 := Aside0.mk (blk_below HX3.out hb); have HY4 := Aside0.mk (blk_below HY3.out hb); obtain ⟨p4_0, p4_1, p4_2, p4_3, p4_4, p4_5, p4_6, p4_7, p4_8, p4_9⟩ := ten_cells HX4.out; obtain ⟨q4_0, q4_1, q4_2, q4_3, q4_4, q4_5, q4_6, q4_7, q4_8, q4_9⟩ := ten_cells HY4.out; clear hb))
      go_ret
      exact ⟨by simp [sameRp, HPL.out, HLS.out], HL4.out⟩
  · have HPL := Aside0.mk (show plainRp a b = true by simp only [plainRp]; simp [c1, c2, c3, c4, c5])
    go_upto_region 2 with (fail)
    clear c1 c2 c3 c4 c5
    rcases chain4 (oneL a.es b.es) (oneL a.chs b.chs) (oneL a.cls b.cls) (oneL a.refs b.refs) with e1 | ⟨e1, e2⟩ | ⟨e1, e2, e3⟩ | ⟨e1, e2, e3, e4⟩ | ⟨e1, e2, e3, e4⟩
    · have HLS := Aside0.mk (show listsRp a b = false by simp only [listsRp]; simp [e1])
      have HE1 := Aside0.mk e1
      clear e1
      go_wp2_with (first | (go_at_call 19; refine (eqEntry_calls A1 n1 a.es B1 m1 b.es _ (Kd.C_below HC.out.c1 HB0.out) HC.out.m1 (Kd.C_below HD.out.c1 HB0.out) HD.out.m1).mono ?_; rw [HE1.out]; rintro e wl1 ⟨rfl, hb⟩; have HL1 := Aside0.mk (below_step HB0.out hb); have HX1 := Aside0.mk (blk_below HX0.out hb); have HY1 := Aside0.mk (blk_below HY0.out hb); obtain ⟨p1_0, p1_1, p1_2, p1_3, p1_4, p1_5, p1_6, p1_7, p1_8, p1_9⟩ := ten_cells HX1.out; obtain ⟨q1_0, q1_1, q1_2, q1_3, q1_4, q1_5, q1_6, q1_7, q1_8, q1_9⟩ := ten_cells HY1.out; clear hb))
      go_ret
      exact ⟨by simp [sameRp, HPL.out, HLS.out], HL1.out⟩
    · have HLS := Aside0.mk (show listsRp a b = false by simp only [listsRp]; simp [e1, e2])
      have HE1 := Aside0.mk e1
      have HE2 := Aside0.mk e2
      clear e1 e2
      go_wp2_with (first | (go_at_call 19; refine (eqEntry_calls A1 n1 a.es B1 m1 b.es _ (Kd.C_below HC.out.c1 HB0.out) HC.out.m1 (Kd.C_below HD.out.c1 HB0.out) HD.out.m1).mono ?_; rw [HE1.out]; rintro e wl1 ⟨rfl, hb⟩; have HL1 := Aside0.mk (below_step HB0.out hb); have HX1 := Aside0.mk (blk_below HX0.out hb); have HY1 := Aside0.mk (blk_below HY0.out hb); obtain ⟨p1_0, p1_1, p1_2, p1_3, p1_4, p1_5, p1_6, p1_7, p1_8, p1_9⟩ := ten_cells HX1.out; obtain ⟨q1_0, q1_1, q1_2, q1_3, q1_4, q1_5, q1_6, q1_7, q1_8, q1_9⟩ := ten_cells HY1.out; clear hb) | (go_at_call 20; refine (eqChange_calls A2 n2 a.chs B2 m2 b.chs _ (Kd.C_below HC.out.c2 HL1.out) HC.out.m2 (Kd.C_below HD.out.c2 HL1.out) HD.out.m2).mono ?_; rw [HE2.out]; rintro e wl2 ⟨rfl, hb⟩; have HL2 := Aside0.mk (below_step HL1.out hb); have HX2 := Aside0.mk (blk_below HX1.out hb); have HY2 := Aside0.mk (blk_below HY1.out hb); obtain ⟨p2_0, p2_1, p2_2, p2_3, p2_4, p2_5, p2_6, p2_7, p2_8, p2_9⟩ := ten_cells HX2.out; obtain ⟨q2_0, q2_1, q2_2, q2_3, q2_4, q2_5, q2_6, q2_7, q2_8, q2_9⟩ := ten_cells HY2.out; clear hb))
      go_ret
      exact ⟨by simp [sameRp, HPL.out, HLS.out], HL2.out⟩
    · have HLS := Aside0.mk (show listsRp a b = false by simp only [listsRp]; simp [e1, e2, e3])
      have HE1 := Aside0.mk e1
      have HE2 := Aside0.mk e2
      have HE3 := Aside0.mk e3
      clear e1 e2 e3
      go_wp2_with (first | (go_at_call 19; refine (eqEntry_calls A1 n1 a.es B1 m1 b.es _ (Kd.C_below HC.out.c1 HB0.out) HC.out.m1 (Kd.C_below HD.out.c1 HB0.out) HD.out.m1).mono ?_; rw [HE1.out]; rintro e wl1 ⟨rfl, hb⟩; have HL1 := Aside0.mk (below_step HB0.out hb); have HX1 := Aside0.mk (blk_below HX0.out hb); have HY1 := Aside0.mk (blk_below HY0.out hb); obtain ⟨p1_0, p1_1, p1_2, p1_3, p1_4, p1_5, p1_6, p1_7, p1_8, p1_9⟩ := ten_cells HX1.out; obtain ⟨q1_0, q1_1, q1_2, q1_3, q1_4, q1_5, q1_6, q1_7, q1_8, q1_9⟩ := ten_cells HY1.out; clear hb) | (go_at_call 20; refine (eqChange_calls A2 n2 a.chs B2 m2 b.chs _ (Kd.C_below HC.out.c2 HL1.out) HC.out.m2 (Kd.C_below HD.out.c2 HL1.out) HD.out.m2).mono ?_; rw [HE2.out]; rintro e wl2 ⟨rfl, hb⟩; have HL2 := Aside0.mk (below_step HL1.out hb); have HX2 := Aside0.mk (blk_below HX1.out hb); have HY2 := Aside0.mk (blk_below HY1.out hb); obtain ⟨p2_0, p2_1, p2_2, p2_3, p2_4, p2_5, p2_6, p2_7, p2_8, p2_9⟩ := ten_cells HX2.out; obtain ⟨q2_0, q2_1, q2_2, q2_3, q2_4, q2_5, q2_6, q2_7, q2_8, q2_9⟩ := ten_cells HY2.out; clear hb) | (go_at_call 21; refine (eqClash_calls A3 n3 a.cls B3 m3 b.cls _ (Kd.C_below HC.out.c3 HL2.out) HC.out.m3 (Kd.C_below HD.out.c3 HL2.out) HD.out.m3).mono ?_; rw [HE3.out]; rintro e wl3 ⟨rfl, hb⟩; have HL3 := Aside0.mk (below_step HL2.out hb); have HX3 := Aside0.mk (blk_below HX2.out hb); have HY3 := Aside0.mk (blk_below HY2.out hb); obtain ⟨p3_0, p3_1, p3_2, p3_3, p3_4, p3_5, p3_6, p3_7, p3_8, p3_9⟩ := ten_cells HX3.out; obtain ⟨q3_0, q3_1, q3_2, q3_3, q3_4, q3_5, q3_6, q3_7, q3_8, q3_9⟩ := ten_cells HY3.out; clear hb))
      go_ret
      exact ⟨by simp [sameRp, HPL.out, HLS.out], HL3.out⟩
    · have HLS := Aside0.mk (show listsRp a b = false by simp only [listsRp]; simp [e1, e2, e3, e4])
      have HE1 := Aside0.mk e1
      have HE2 := Aside0.mk e2
      have HE3 := Aside0.mk e3
      have HE4 := Aside0.mk e4
      clear e1 e2 e3 e4
      go_wp2_with (first | (go_at_call 19; refine (eqEntry_calls A1 n1 a.es B1 m1 b.es _ (Kd.C_below HC.out.c1 HB0.out) HC.out.m1 (Kd.C_below HD.out.c1 HB0.out) HD.out.m1).mono ?_; rw [HE1.out]; rintro e wl1 ⟨rfl, hb⟩; have HL1 := Aside0.mk (below_step HB0.out hb); have HX1 := Aside0.mk (blk_below HX0.out hb); have HY1 := Aside0.mk (blk_below HY0.out hb); obtain ⟨p1_0, p1_1, p1_2, p1_3, p1_4, p1_5, p1_6, p1_7, p1_8, p1_9⟩ := ten_cells HX1.out; obtain ⟨q1_0, q1_1, q1_2, q1_3, q1_4, q1_5, q1_6, q1_7, q1_8, q1_9⟩ := ten_cells HY1.out; clear hb) | (go_at_call 20; refine (eqChange_calls A2 n2 a.chs B2 m2 b.chs _ (Kd.C_below HC.out.c2 HL1.out) HC.out.m2 (Kd.C_below HD.out.c2 HL1.out) HD.out.m2).mono ?_; rw [HE2.out]; rintro e wl2 ⟨rfl, hb⟩; have HL2 := Aside0.mk (below_step HL1.out hb); have HX2 := Aside0.mk (blk_below HX1.out hb); have HY2 := Aside0.mk (blk_below HY1.out hb); obtain ⟨p2_0, p2_1, p2_2, p2_3, p2_4, p2_5, p2_6, p2_7, p2_8, p2_9⟩ := ten_cells HX2.out; obtain ⟨q2_0, q2_1, q2_2, q2_3, q2_4, q2_5, q2_6, q2_7, q2_8, q2_9⟩ := ten_cells HY2.out; clear hb) | (go_at_call 21; refine (eqClash_calls A3 n3 a.cls B3 m3 b.cls _ (Kd.C_below HC.out.c3 HL2.out) HC.out.m3 (Kd.C_below HD.out.c3 HL2.out) HD.out.m3).mono ?_; rw [HE3.out]; rintro e wl3 ⟨rfl, hb⟩; have HL3 := Aside0.mk (below_step HL2.out hb); have HX3 := Aside0.mk (blk_below HX2.out hb); have HY3 := Aside0.mk (blk_below HY2.out hb); obtain ⟨p3_0, p3_1, p3_2, p3_3, p3_4, p3_5, p3_6, p3_7, p3_8, p3_9⟩ := ten_cells HX3.out; obtain ⟨q3_0, q3_1, q3_2, q3_3, q3_4, q3_5, q3_6, q3_7, q3_8, q3_9⟩ := ten_cells HY3.out; clear hb) | (go_at_call 22; refine (eqRef_calls A5 n5 a.refs B5 m5 b.refs _ (Kd.C_below HC.out.c5 HL3.out) HC.out.m5 (Kd.C_below HD.out.c5 HL3.out) HD.out.m5).mono ?_; rw [HE4.out]; rintro e wl4 ⟨rfl, hb⟩; have HL4 := Aside0.mk (below_step HL3.out hb); have HX4 := Aside0.mk (blk_below HX3.out hb); have HY4 := Aside0.mk (blk_below HY3.out hb); obtain ⟨p4_0, p4_1, p4_2, p4_3, p4_4, p4_5, p4_6, p4_7, p4_8, p4_9⟩ := ten_cells HX4.out; obtain ⟨q4_0, q4_1, q4_2, q4_3, q4_4, q4_5, q4_6, q4_7, q4_8, q4_9⟩ := ten_cells HY4.out; clear hb))
      go_ret
      exact ⟨by simp [sameRp, HPL.out, HLS.out], HL4.out⟩
    · have HLS := Aside0.mk (show listsRp a b = true by simp only [listsRp]; simp [e1, e2, e3, e4])
      have HE1 := Aside0.mk e1
      have HE2 := Aside0.mk e2
      have HE3 := Aside0.mk e3
      have HE4 := Aside0.mk e4
      clear e1 e2 e3 e4
      go_wp2_with (first | (go_at_call 19; refine (eqEntry_calls A1 n1 a.es B1 m1 b.es _ (Kd.C_below HC.out.c1 HB0.out) HC.out.m1 (Kd.C_below HD.out.c1 HB0.out) HD.out.m1).mono ?_; rw [HE1.out]; rintro e wl1 ⟨rfl, hb⟩; have HL1 := Aside0.mk (below_step HB0.out hb); have HX1 := Aside0.mk (blk_below HX0.out hb); have HY1 := Aside0.mk (blk_below HY0.out hb); obtain ⟨p1_0, p1_1, p1_2, p1_3, p1_4, p1_5, p1_6, p1_7, p1_8, p1_9⟩ := ten_cells HX1.out; obtain ⟨q1_0, q1_1, q1_2, q1_3, q1_4, q1_5, q1_6, q1_7, q1_8, q1_9⟩ := ten_cells HY1.out; clear hb) | (go_at_call 20; refine (eqChange_calls A2 n2 a.chs B2 m2 b.chs _ (Kd.C_below HC.out.c2 HL1.out) HC.out.m2 (Kd.C_below HD.out.c2 HL1.out) HD.out.m2).mono ?_; rw [HE2.out]; rintro e wl2 ⟨rfl, hb⟩; have HL2 := Aside0.mk (below_step HL1.out hb); have HX2 := Aside0.mk (blk_below HX1.out hb); have HY2 := Aside0.mk (blk_below HY1.out hb); obtain ⟨p2_0, p2_1, p2_2, p2_3, p2_4, p2_5, p2_6, p2_7, p2_8, p2_9⟩ := ten_cells HX2.out; obtain ⟨q2_0, q2_1, q2_2, q2_3, q2_4, q2_5, q2_6, q2_7, q2_8, q2_9⟩ := ten_cells HY2.out; clear hb) | (go_at_call 21; refine (eqClash_calls A3 n3 a.cls B3 m3 b.cls _ (Kd.C_below HC.out.c3 HL2.out) HC.out.m3 (Kd.C_below HD.out.c3 HL2.out) HD.out.m3).mono ?_; rw [HE3.out]; rintro e wl3 ⟨rfl, hb⟩; have HL3 := Aside0.mk (below_step HL2.out hb); have HX3 := Aside0.mk (blk_below HX2.out hb); have HY3 := Aside0.mk (blk_below HY2.out hb); obtain ⟨p3_0, p3_1, p3_2, p3_3, p3_4, p3_5, p3_6, p3_7, p3_8, p3_9⟩ := ten_cells HX3.out; obtain ⟨q3_0, q3_1, q3_2, q3_3, q3_4, q3_5, q3_6, q3_7, q3_8, q3_9⟩ := ten_cells HY3.out; clear hb) | (go_at_call 22; refine (eqRef_calls A5 n5 a.refs B5 m5 b.refs _ (Kd.C_below HC.out.c5 HL3.out) HC.out.m5 (Kd.C_below HD.out.c5 HL3.out) HD.out.m5).mono ?_; rw [HE4.out]; rintro e wl4 ⟨rfl, hb⟩; have HL4 := Aside0.mk (below_step HL3.out hb); have HX4 := Aside0.mk (blk_below HX3.out hb); have HY4 := Aside0.mk (blk_below HY3.out hb); obtain ⟨p4_0, p4_1, p4_2, p4_3, p4_4, p4_5, p4_6, p4_7, p4_8, p4_9⟩ := ten_cells HX4.out; obtain ⟨q4_0, q4_1, q4_2, q4_3, q4_4, q4_5, q4_6, q4_7, q4_8, q4_9⟩ := ten_cells HY4.out; clear hb) | (go_at_call 23; refine (eqf_calls A4 n4 a.coms B4 m4 b.coms _ (Kd.C_below HC.out.c4 HL4.out) HC.out.m4 (Kd.C_below HD.out.c4 HL4.out) HD.out.m4).mono ?_; rintro e wl5 ⟨rfl, hb⟩; have HL5 := Aside0.mk (below_step HL4.out hb); clear hb))
      go_ret
      exact ⟨by simp [sameRp, HPL.out, HLS.out], HL5.out⟩
end Go.Proofs.Ytcegkljkmnpkaaa.Sep
