/- What is quoted: plain; the reference's Quote. Conditions: the bounds of the statements. -/
import Derived.Test.YtbnlfiklkddolaaG9
namespace Go.Proofs.Ytbnlfiklkddolaa.Sep
set_option linter.unusedSimpArgs false
set_option linter.unusedVariables false
open Go.RowKit Go.Proofs.Ytbnlfiklkddolaa.PCore Go.Proofs.Ytbnlfiklkddolaa.Plain Go.Proofs.YtbnlfiklkddolaaW.PrintWords Go.Proofs.YtbnlfiklkddolaaW.PrintLast Go.Proofs.YtbnlfiklkddolaaW.PrintMore
open Go.Proofs.Ytbnlfiklkddolaa.PDat (apographref27_Quote.f apographref27_Quote.l0 apographref27_Quote.calls)
theorem text_one {s t : ByteArray} : s.toList = t.toList ↔ s = t := ⟨fun h => by
  rw [ByteArray.toList_eq, ByteArray.toList_eq] at h
  obtain ⟨⟨a⟩⟩ := s
  obtain ⟨⟨b⟩⟩ := t
  simp only at h
  rw [h], fun h => by rw [h]⟩
theorem strOf_append (a b : List Int) : strOfNums (a ++ b) = strOfNums a ++ strOfNums b := by
  apply ByteArray.ext
  simp [strOfNums]
theorem bytes_extract (s : ByteArray) (i j : Nat) : bytesOf (s.extract i j) = ((bytesOf s).take j).drop i := by
  unfold bytesOf
  rw [ByteArray.data_extract]
  simp [List.drop_take]
theorem extract_one (s : ByteArray) (i : Nat) (h : i < s.size) : s.extract i (i + 1) = strOfNums [bt s (i : Int)] := by
  apply bytesOf_one
  have hb : 0 ≤ bt s (i : Int) ∧ bt s (i : Int) < 256 := by have := bt_range s (i : Int); omega
  rw [bytes_extract, bytes_str _ (by simpa using hb), List.drop_take, show i + 1 - i = 1 by omega, bytes_drop s i h]
  rfl
theorem specB_iff (c : Int) : specB c = true ↔ c = 42 ∨ c = 63 ∨ c = 91 ∨ c = 93 ∨ c = 92 := by
  simp [specB, or_assoc]
set_option maxHeartbeats 4000000 in
theorem rquote_loop (s : ByteArray) (hs : s.size ≤ 1000000) : ∀ (d i : Nat), i + d = s.size → Ev (fun k => apographref27_Quote.l0 k s (strOfNums (quoteL ((bytesOf s).take i))) i) (strOfNums (quoteL (bytesOf s))) := by
  intro d
  induction d with
  | zero =>
    intro i hi
    rw [List.take_of_length_le (by rw [bytesOf_length]; omega)]
    refine Ev.step (f := fun _ => some (strOfNums (quoteL (bytesOf s)))) (fun k => ?_) (Ev.now _)
    simp only [apographref27_Quote.l0]
    rw [if_neg (by omega)]
  | succ d ih =>
    intro i hi
    have ew : wrap64 ((i : Int) + 1) = ((i + 1 : Nat) : Int) := by unfold wrap64; omega
    have h := ih (i + 1) (by omega)
    have hx := extract_one s i (by omega)
    have hq := take_snoc (bytesOf s) i (by rw [bytesOf_length]; omega)
    rw [rd_bytesOf] at hq
    have hl := quoteL_len ((bytesOf s).take i)
    rw [List.length_take] at hl
    have hz : (strOfNums (quoteL ((bytesOf s).take i))).size ≤ 2000000 := by rw [str_size]; omega
    rw [hq] at h
    generalize bt s (i : Int) = c at hx hq h
    rw [quoteL_snoc] at h
    generalize hX : strOfNums (quoteL ((bytesOf s).take i)) = X at hz
    have hz1 : (strOfNums [c]).size = 1 := rfl
    have hz2 : (X ++ (⟨#[92]⟩ : ByteArray)).size = X.size + 1 := ByteArray.size_append
    cases hsp : specB c with
    | true =>
      rw [if_pos hsp, show quoteL ((bytesOf s).take i) ++ [92, c] = (quoteL ((bytesOf s).take i) ++ [92]) ++ [c] by simp, strOf_append, strOf_append, hX] at h
      have hc := (specB_iff c).1 hsp
      have hbc : bt s (i : Int) = c := by
        have := take_snoc (bytesOf s) i (by rw [bytesOf_length]; omega)
        rw [rd_bytesOf, hq] at this
        exact (List.append_cancel_left this |> List.head_eq_of_cons_eq).symm
      refine Ev.step (fun k => ?_) h
      simp only [apographref27_Quote.l0, hbc, ew, Int.toNat_natCast, hx]
      rw [if_pos (by omega), if_pos (by omega)]
      repeat' split
      all_goals first | rfl | (exfalso; omega)
    | false =>
      rw [if_neg (by rw [hsp]; decide), strOf_append, hX] at h
      have hc : ¬ (c = 42 ∨ c = 63 ∨ c = 91 ∨ c = 93 ∨ c = 92) := fun e => by rw [(specB_iff c).2 e] at hsp; cases hsp
      have hbc : bt s (i : Int) = c := by
        have := take_snoc (bytesOf s) i (by rw [bytesOf_length]; omega)
        rw [rd_bytesOf, hq] at this
        exact (List.append_cancel_left this |> List.head_eq_of_cons_eq).symm
      refine Ev.step (fun k => ?_) h
      simp only [apographref27_Quote.l0, hbc, ew, Int.toNat_natCast, hx]
      rw [if_pos (by omega), if_pos (by omega)]
      repeat' split
      all_goals first | rfl | (exfalso; omega)
theorem rquote_calls (s : ByteArray) (hs : s.size ≤ 1000000) (w : World) : Calls Try.prog 20 #[.string s] w fun e w' => e = .returned (.string (strOfNums (quoteL (bytesOf s)))) ∧ Below w.heap.size w w' := by
  obtain ⟨k, hk⟩ := Ev.rounds (rquote_loop s hs s.size 0 (by omega))
  exact (apographref27_Quote.calls k s _ w hk).mono fun e w' ⟨h1, h2⟩ => ⟨h1, by first | exact h2 | exact h2.below⟩
abbrev ones (l : List Int) : List El := l.map .one
theorem prt_quote (c : Int) (r : List Int) : prt ((if specB c = true then [92, c] else [c]) ++ r) = some (.one c, r) := by
  cases h : specB c with
  | true =>
    rw [if_pos rfl]
    simp [prt, nxt]
  | false =>
    rw [if_neg (by decide)]
    have hc : ¬ (c = 42 ∨ c = 63 ∨ c = 91 ∨ c = 93 ∨ c = 92) := fun e => by rw [(specB_iff c).2 e] at h; cases h
    simp only [List.cons_append, List.nil_append, prt]
    rw [if_neg (fun e => hc (.inl e)), if_neg (fun e => hc (.inr (.inl e))), if_neg (fun e => hc (.inr (.inr (.inl e)))), if_neg (fun e => hc (.inr (.inr (.inr (.inl e))))), if_neg (fun e => hc (.inr (.inr (.inr (.inr e)))))]
theorem patL_quote : ∀ (l : List Int) (k : Nat) (r : List Int), (quoteL l ++ r).length < k → ∃ k', r.length < k' ∧ patL k (quoteL l ++ r) = (patL k' r).map (ones l ++ ·)
  | [], k, r, h => ⟨k, by simpa [quoteL] using h, by simp [quoteL]⟩
  | c :: l, k, r, h => by
    have e : quoteL (c :: l) = (if specB c = true then [92, c] else [c]) ++ quoteL l := rfl
    rw [e, List.append_assoc] at h ⊢
    obtain ⟨k, rfl⟩ : ∃ k', k = k' + 1 := ⟨k - 1, by omega⟩
    have hl : 1 ≤ (if specB c = true then [92, c] else [c]).length := by split <;> simp
    rw [List.length_append] at h
    obtain ⟨k', h1, h2⟩ := patL_quote l k r (by omega)
    refine ⟨k', h1, ?_⟩
    have hp := prt_quote c (quoteL l ++ r)
    rw [patL, if_neg (by intro e2; have := congrArg List.length e2; rw [List.length_append] at this; simp only [List.length_nil] at this; omega), hp]
    simp only
    rw [h2, Option.map_map]
    congr 1
theorem pat_quote (l : List Int) : pat (quoteL l) = some (ones l) := by
  obtain ⟨k', h1, h2⟩ := patL_quote l ((quoteL l).length + 1) [] (by simp)
  unfold pat
  rw [List.append_nil] at h2
  rw [h2]
  obtain ⟨k', rfl⟩ : ∃ k2, k' = k2 + 1 := ⟨k' - 1, by omega⟩
  rw [patL_nil]
  simp
theorem pat_star (l : List Int) : pat ([42] ++ quoteL l ++ [42]) = some (.many :: (ones l ++ [.many])) := by
  obtain ⟨k', h1, h2⟩ := patL_quote l (([42] ++ quoteL l ++ [42]).length) [42] (by simp)
  obtain ⟨k', rfl⟩ : ∃ k2, k' = k2 + 2 := ⟨k' - 2, by simp at h1; omega⟩
  unfold pat
  rw [show [42] ++ quoteL l ++ [42] = 42 :: (quoteL l ++ [42]) by simp] at h2 ⊢
  rw [patL_step (show prt (42 :: (quoteL l ++ [42])) = some (.many, quoteL l ++ [42]) by simp [prt]), h2, patL_step (show prt (42 :: []) = some (.many, []) by simp [prt]), patL_nil]
  simp
theorem mt_ones : ∀ (l s : List Int), Mt (ones l) s ↔ s = l
  | [], s => by simp [mt_nil]
  | c :: l, s => by
    rw [show ones (c :: l) = .one c :: ones l from rfl, mt_one rfl]
    constructor
    · rintro ⟨d, t, rfl, h1, h2⟩
      have h3 := (mt_ones l t).1 h2
      have h4 : c = d := by simpa [El.takes] using h1
      rw [h3, h4]
    · rintro rfl
      exact ⟨c, l, rfl, by simp [El.takes], (mt_ones l l).2 rfl⟩
theorem pref_ones (l : List Int) : prefL (ones l) = l := by
  induction l with
  | nil => rfl
  | cons c l ih => rw [show ones (c :: l) = .one c :: ones l from rfl, prefL, ih]
theorem mt_star (l s : List Int) : Mt (.many :: (ones l ++ [.many])) s ↔ ∃ i, i + l.length ≤ s.length ∧ (s.drop i).take l.length = l := by
  rw [mt_many]
  constructor
  · rintro ⟨i, h1, h2⟩
    obtain ⟨j, h3, h4, _⟩ := (mt_split _ _ _).1 h2
    have h5 := (mt_ones _ _).1 h4
    rw [List.length_drop] at h3
    have hj : j = l.length := by rw [← h5, List.length_take, List.length_drop]; omega
    subst hj
    exact ⟨i, by omega, h5⟩
  · rintro ⟨i, h1, h2⟩
    refine ⟨i, by omega, (mt_split _ _ _).2 ⟨l.length, by rw [List.length_drop]; omega, (mt_ones _ _).2 h2, ?_⟩⟩
    rw [mt_many]
    exact ⟨_, Nat.le_refl _, by rw [mt_nil, List.drop_length]⟩
theorem mtB_ones (s t : ByteArray) : mtB (ones (bytesOf s)) (bytesOf t) = (s.toList == t.toList) := by
  by_cases h : s = t
  · subst h
    rw [mtB_t ((mt_ones _ _).2 rfl)]
    simp
  · rw [mtB_f (fun e => h (bytesOf_one ((mt_ones _ _).1 e)).symm)]
    exact (beq_eq_false_iff_ne.mpr (fun e => h (text_one.1 e))).symm
end Go.Proofs.Ytbnlfiklkddolaa.Sep
