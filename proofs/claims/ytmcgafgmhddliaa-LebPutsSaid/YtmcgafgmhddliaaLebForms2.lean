import Derived.Test.YtmcgafgmhddliaaLebForms1
namespace Go.Proofs.Ytmcgafgmhddliaa.Plain
open Go.RowKit Go.Proofs.Ytmcgafgmhddliaa.PLeb Go.Proofs.YtmcgafgmhddliaaW.PrintWords Go.Proofs.YtmcgafgmhddliaaW.PrintLast Go.Proofs.YtmcgafgmhddliaaW.PrintMore
theorem leb_form (b : List Int) (hb : ∀ x ∈ b, 0 ≤ x ∧ x < 256) (hn : b.length ≤ 140737488355328) : Ev (fun k => apographref01_Leb.f k b) (told 0 0 (dec 0 b)) := by
  have h := leb_loop b.length b 0 (by omega) hb hn (by omega) (by intro x hx; simp at hx)
  have e : IntKind.u64.wrap (128 ^ 0) = 1 := by decide
  rw [e, List.take_zero, List.drop_zero] at h
  have e0 : ((0 : Nat) : Int) = 0 := rfl
  have e1 : valp [] = 0 := rfl
  rw [e0, e1] at h
  refine Ev.congr (fun k => ?_) h
  unfold apographref01_Leb.f
  rfl
/-! ### Size, all, All, Lebs, SameNumbers -/
theorem size_loop : ∀ (m : Nat) (n : Int) (s : Int), n.toNat ≤ m → 0 ≤ n → 0 ≤ s → s + (enc n).length ≤ 1000 → Ev (fun k => leb_Size.l0 k (n / 128) s) (s + (enc n).length - 1) := by
  intro m
  induction m with
  | zero =>
    intro n s hm h0 hs hl
    rw [enc_lt (by omega)]
    refine Ev.step (f := fun _ => some (s + ([n] : List Int).length - 1)) (fun k => ?_) (Ev.now _)
    simp only [leb_Size.l0]
    rw [if_neg (by omega)]
    simp
  | succ m ih =>
    intro n s hm h0 hs hl
    by_cases hn : n < 128
    · rw [enc_lt hn]
      refine Ev.step (f := fun _ => some (s + ([n] : List Int).length - 1)) (fun k => ?_) (Ev.now _)
      simp only [leb_Size.l0]
      rw [if_neg (by omega)]
      simp
    · rw [enc_ge (by omega)] at hl ⊢
      rw [List.length_cons] at hl ⊢
      have ew : wrap64 (s + 1) = s + 1 := by unfold wrap64; omega
      refine Ev.step (f := fun k => leb_Size.l0 k (n / 128 / 128) (s + 1)) (fun k => ?_) ?_
      · simp only [leb_Size.l0, ew]
        rw [if_pos (by omega)]
      · have := ih (n / 128) (s + 1) (by omega) (by omega) (by omega) (by omega)
        rw [show s + ((enc (n / 128)).length + 1 : Nat) - 1 = s + 1 + (enc (n / 128)).length - 1 by omega]
        exact this
theorem size_form {n : Int} (h0 : 0 ≤ n) (h1 : n < 18446744073709551616) : Ev (fun k => leb_Size.f k n) ((enc n).length : Int) := by
  have hl := enc_len_u64 h0 h1
  have h := size_loop n.toNat n 1 (Nat.le_refl _) h0 (by omega) (by omega)
  rw [show (1 : Int) + (enc n).length - 1 = (enc n).length by omega] at h
  exact h
theorem all_loop : ∀ (d : Nat) (out ls : List Int) (i : Nat), i + d = ls.length → (∀ x ∈ ls, 0 ≤ x ∧ x < 18446744073709551616) → out.length + 10 * d + 10 ≤ 140737488355328 → ls.length ≤ 140737488355328 →
    Ev (fun k => apographlaw01_all.l0 k out ls ls.length i) (out ++ encs (ls.drop i)) := by
  intro d
  induction d with
  | zero =>
    intro out ls i hi hx hl hn
    refine Ev.step (f := fun _ => some (out ++ encs (ls.drop i))) (fun k => ?_) (Ev.now _)
    simp only [apographlaw01_all.l0]
    rw [if_neg (by omega), List.drop_eq_nil_of_le (by omega), encs_nil, List.append_nil]
  | succ d ih =>
    intro out ls i hi hx hl hn
    have hlt : i < ls.length := by omega
    have hv := hx _ (List.getElem_mem hlt)
    have hlen := enc_len_u64 hv.1 hv.2
    have ew : wrap64 ((i : Int) + 1) = ((i + 1 : Nat) : Int) := by unfold wrap64; omega
    refine Ev.step (f := fun k => (apographref01_Num.f k out ls[i]).bind fun t => apographlaw01_all.l0 k t ls ls.length ((i + 1 : Nat) : Int)) (fun k => ?_) ?_
    · simp only [apographlaw01_all.l0, rd_nat ls i hlt, ew]
      rw [if_pos (by omega), if_pos (by omega), if_pos (by omega)]
    · refine Ev.bind (num_form out hv.1 hv.2 (by omega)) ?_
      have := ih (out ++ enc ls[i]) ls (i + 1) (by omega) hx (by rw [List.length_append]; omega) hn
      rw [show ls.drop i = ls[i] :: ls.drop (i + 1) from List.drop_eq_getElem_cons hlt, encs_cons, ← List.append_assoc]
      exact this
theorem all_form (out ls : List Int) (hx : ∀ x ∈ ls, 0 ≤ x ∧ x < 18446744073709551616) (hl : out.length + 10 * ls.length + 10 ≤ 140737488355328) : Ev (fun k => apographlaw01_all.f k out ls) (out ++ encs ls) :=
  all_loop ls.length out ls 0 (by omega) hx hl (by omega)
/-- What All tells. -/
def toldAll (out : List Int) : Option (List Int) → List Int × Int
  | none => ([], 20)
  | some l => (out ++ l, 0)
theorem all_step (b : List Int) (hb : ∀ x ∈ b, 0 ≤ x ∧ x < 256) (f : Nat → List Int → Option (Int × Int × Int)) (g : Nat → List Int → List Int → Option (List Int × Int))
    (hf : ∀ b : List Int, (∀ x ∈ b, 0 ≤ x ∧ x < 256) → b.length ≤ 140737488355328 → Ev (fun k => f k b) (told 0 0 (dec 0 b)))
    (hg : ∀ k b out, g (k + 1) b out = if (b.length : Int) > 0 then ((f k b).bind fun t => (if t.2.2 = 0 then (if out.length < 17592186044416 then (if 0 ≤ t.2.1 then (if t.2.1 ≤ (b.length : Int) then (g k (b.drop (t.2.1 : Int).toNat) (out ++ [t.1])) else (none)) else (none)) else (none)) else (some (([] : List Int), t.2.2)))) else (some (out, 0)))
    (n : Nat) (hn : b.length < n) (out : List Int) (hl : out.length + b.length ≤ 1000000) : Ev (fun k => g k b out) (toldAll out (decs n b)) := by
  induction n generalizing b out with
  | zero => omega
  | succ n ih =>
    simp only [decs]
    by_cases c : b = []
    · rw [if_pos c]
      refine Ev.step (f := fun _ => some (out, 0)) (fun k => ?_) ?_
      · rw [hg, if_neg (by rw [c]; simp)]
      · simp only [toldAll, List.append_nil]; exact Ev.now _
    · rw [if_neg c]
      have hpos : 0 < b.length := List.length_pos_iff.2 c
      refine Ev.step (fun k => by rw [hg, if_pos (by omega)]) (Ev.bind (hf b hb (by omega)) ?_)
      cases hd : dec 0 b with
      | none =>
        simp only [told_zero, Option.bind_none, toldAll, if_neg (show ¬ ((20 : Int) = 0) by decide)]
        exact Ev.now _
      | some p =>
        obtain ⟨m, s⟩ := p
        obtain ⟨h0, _, _, hlm, hs, xs, hx⟩ := dec_some b 0 m s hb hd
        have hsl : s ≤ b.length := by rw [hx, hs, List.length_append]; omega
        have hs1 : 1 ≤ s := by rw [hs]; exact enc_len_pos m
        simp only [told_zero, Option.bind_some, if_true, Int.toNat_natCast, if_pos (show out.length < 17592186044416 by omega), if_pos (show 0 ≤ (s : Int) by omega), if_pos (show (s : Int) ≤ b.length by omega)]
        have hdl : (b.drop s).length = b.length - s := List.length_drop
        have := ih (b.drop s) (fun x hx' => hb x (List.mem_of_mem_drop hx')) (by omega) (out ++ [m]) (by rw [List.length_append, List.length_singleton]; omega)
        have ht : toldAll (out ++ [m]) (decs n (b.drop s)) = toldAll out ((decs n (b.drop s)).map fun l => m :: l) := by
          cases decs n (b.drop s) with
          | none => rfl
          | some l => simp [toldAll]
        rw [← ht]
        exact this
theorem lebAll_form (b : List Int) (hb : ∀ x ∈ b, 0 ≤ x ∧ x < 256) (hl : b.length ≤ 1000000) : Ev (fun k => leb_All.f k b) (toldAll [] (decs (b.length + 1) b)) :=
  all_step b hb leb_Of.f leb_All.l0 of_form (fun k b out => by simp only [leb_All.l0]) (b.length + 1) (by omega) [] (by simpa using hl)
theorem lebs_form (b : List Int) (hb : ∀ x ∈ b, 0 ≤ x ∧ x < 256) (hl : b.length ≤ 1000000) : Ev (fun k => apographref01_Lebs.f k b) (toldAll [] (decs (b.length + 1) b)) :=
  all_step b hb apographref01_Leb.f apographref01_Lebs.l0 leb_form (fun k b out => by simp only [apographref01_Lebs.l0]) (b.length + 1) (by omega) [] (by simpa using hl)
theorem same_loop : ∀ (d : Nat) (a b : List Int) (i : Nat), a.length = b.length → i + d = a.length → a.length ≤ 140737488355328 → Ev (fun k => apographref01_SameNumbers.l0 k a b a.length i) (decide (a.drop i = b.drop i)) := by
  intro d
  induction d with
  | zero =>
    intro a b i hab hi hn
    rw [List.drop_eq_nil_of_le (by omega), List.drop_eq_nil_of_le (by omega), decide_eq_true rfl]
    refine Ev.step (f := fun _ => some true) (fun k => ?_) (Ev.now _)
    simp only [apographref01_SameNumbers.l0]
    rw [if_neg (by omega)]
  | succ d ih =>
    intro a b i hab hi hn
    have ew : wrap64 ((i : Int) + 1) = ((i + 1 : Nat) : Int) := by unfold wrap64; omega
    rw [drop_rd a i (by omega), drop_rd b i (by omega)]
    by_cases c : rd a i = rd b i
    · refine Ev.step (f := fun k => apographref01_SameNumbers.l0 k a b a.length ((i + 1 : Nat) : Int)) (fun k => ?_) ?_
      · simp only [apographref01_SameNumbers.l0, ew]
        rw [if_pos (by omega), if_pos (by omega), if_pos (by omega), if_pos (by omega), if_pos c]
      · have := ih a b (i + 1) hab (by omega) hn
        have e : decide (rd a i :: a.drop (i + 1) = rd b i :: b.drop (i + 1)) = decide (a.drop (i + 1) = b.drop (i + 1)) := by
          rw [decide_eq_decide, List.cons.injEq]
          exact ⟨fun h => h.2, fun h => ⟨c, h⟩⟩
        rw [e]
        exact this
    · refine Ev.step (f := fun _ => some false) (fun k => ?_) ?_
      · simp only [apographref01_SameNumbers.l0]
        rw [if_pos (by omega), if_pos (by omega), if_pos (by omega), if_pos (by omega), if_neg c]
      · rw [decide_eq_false (by rw [List.cons.injEq]; exact fun h => c h.1)]
        exact Ev.now _
theorem same_form (a b : List Int) (hn : a.length ≤ 140737488355328) : Ev (fun k => apographref01_SameNumbers.f k a b) (decide (a = b)) := by
  by_cases c : a.length = b.length
  · refine Ev.congr (fun k => ?_) (same_loop a.length a b 0 c (by omega) hn)
    unfold apographref01_SameNumbers.f
    rw [if_pos (by omega)]
    rfl
  · rw [decide_eq_false (fun h => c (by rw [h]))]
    refine Ev.congr (fun k => ?_) (Ev.now _)
    unfold apographref01_SameNumbers.f
    rw [if_neg (by omega)]
/-! ### Chapter 1's examples -/
theorem awake_true : apographlaw01_awake.f 12 = some true := by decide +kernel
theorem awake_ev : Ev (fun k => apographlaw01_awake.f k) true := Ev.of apographlaw01_awake.mono awake_true
end Go.Proofs.Ytmcgafgmhddliaa.Plain
