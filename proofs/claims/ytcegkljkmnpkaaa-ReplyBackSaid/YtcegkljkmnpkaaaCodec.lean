/- What is written is read again, and what is read had been written so: numbers, texts, flags. Conditions: bytes are bytes. -/
import Derived.Test.YtcegkljkmnpkaaaReader2
namespace Go.Proofs.Ytcegkljkmnpkaaa.Sep
open Go.RowKit Go.Proofs.Ytcegkljkmnpkaaa.PCore Go.Proofs.Ytcegkljkmnpkaaa.Plain Go.Proofs.YtcegkljkmnpkaaaW.PrintWords Go.Proofs.YtcegkljkmnpkaaaW.PrintLast Go.Proofs.YtcegkljkmnpkaaaW.PrintMore
theorem str_size (l : List Int) : (strOfNums l).size = l.length := by
  simp [strOfNums, ByteArray.size]
theorem str_bytes (s : ByteArray) : strOfNums (bytesOf s) = s := by
  obtain ⟨⟨l⟩⟩ := s
  simp only [strOfNums, bytesOf, List.map_map]
  congr 2
  induction l with
  | nil => rfl
  | cons x l ih => simp [ih]
theorem bytes_str (l : List Int) (h : ∀ x ∈ l, 0 ≤ x ∧ x < 256) : bytesOf (strOfNums l) = l := by
  simp only [strOfNums, bytesOf, List.map_map]
  induction l with
  | nil => rfl
  | cons x l ih =>
    have hx := h x (by simp)
    simp only [List.map_cons, Function.comp_apply, List.cons.injEq]
    refine ⟨?_, ih (fun y hy => h y (by simp [hy]))⟩
    simp
    omega
theorem bytesOf_in (s : ByteArray) : ∀ x ∈ bytesOf s, 0 ≤ x ∧ x < 256 := by
  intro x hx
  simp only [bytesOf, List.mem_map] at hx
  obtain ⟨b, _, rfl⟩ := hx
  have := b.toNat_lt
  omega
theorem bytesOf_one {s t : ByteArray} (h : bytesOf s = bytesOf t) : s = t := by rw [← str_bytes s, ← str_bytes t, h]
theorem encT_in (s : ByteArray) : ∀ x ∈ encT s, 0 ≤ x ∧ x < 256 := by
  intro x hx
  rcases List.mem_append.1 hx with h | h
  · exact enc_in (by omega) x h
  · exact bytesOf_in s x h
theorem encB_in (b : Bool) : ∀ x ∈ encB b, 0 ≤ x ∧ x < 256 := by
  intro x hx
  cases b <;> simp [encB] at hx <;> subst hx <;> decide
theorem dec_enc0 (n : Int) (r : List Int) (h0 : 0 ≤ n) (h1 : n < 18446744073709551616) : dec 0 (enc n ++ r) = some (n, (enc n).length) :=
  dec_enc r n.toNat n 0 (Nat.le_refl _) h0 (fun h => absurd h (Nat.lt_irrefl _)) (by omega) (by rw [lim_zero]; exact h1)
theorem rdNum_enc {most n : Int} (r : List Int) (h0 : 0 ≤ n) (h1 : n < 18446744073709551616) (hm : n ≤ most) : rdNum most (enc n ++ r, false) = (n, (r, false)) := by
  unfold rdNum
  rw [if_neg (by simp), dec_enc0 n r h0 h1]
  simp only
  rw [if_neg (by omega), List.drop_left]
theorem rdText_enc {most : Int} {s : ByteArray} (r : List Int) (hm : (s.size : Int) ≤ most) (hs : s.size < 18446744073709551616) : rdText most (encT s ++ r, false) = (s, (r, false)) := by
  unfold rdText encT
  rw [if_neg (by omega), List.append_assoc, rdNum_enc _ (by omega) (by omega) hm]
  simp only [Bool.false_eq_true, if_false]
  rw [if_neg (by rw [List.length_append, bytesOf_length]; omega)]
  have e : ((s.size : Nat) : Int).toNat = (bytesOf s).length := by rw [bytesOf_length]; omega
  rw [e, List.take_left, List.drop_left, str_bytes]
theorem rdFlag_enc (f : Bool) (r : List Int) : rdFlag (encB f ++ r, false) = (f, (r, false)) := by
  have e : encB f = enc (if f then 1 else 0) := by cases f <;> (rw [enc_lt (by decide)]; rfl)
  unfold rdFlag
  rw [e]
  cases f
  · rw [rdNum_enc r (by decide) (by decide) (by decide)]; rfl
  · rw [rdNum_enc r (by decide) (by decide) (by decide)]; rfl
theorem rdNum_of {most : Int} {s : RS} (hb : ∀ x ∈ s.1, 0 ≤ x ∧ x < 256) (h : (rdNum most s).2.2 = false) :
    s.2 = false ∧ s.1 = enc (rdNum most s).1 ++ (rdNum most s).2.1 ∧ 0 ≤ (rdNum most s).1 ∧ (rdNum most s).1 < 18446744073709551616 ∧ (rdNum most s).1 ≤ most := by
  obtain ⟨b, f⟩ := s
  unfold rdNum at h ⊢
  cases f with
  | true => simp at h
  | false =>
    simp only [Bool.false_eq_true, if_false] at h ⊢
    cases hd : dec 0 b with
    | none => rw [hd] at h; simp [failed] at h
    | some p =>
      obtain ⟨n, k⟩ := p
      rw [hd] at h
      obtain ⟨h0, _, _, hl, hk, xs, hxs⟩ := dec_some b 0 n k hb hd
      rw [lim_zero] at hl
      by_cases c : most < n
      · simp [if_pos c, failed] at h
      · simp only [if_neg c]
        refine ⟨trivial, ?_, h0, hl, by omega⟩
        rw [hxs, hk, List.drop_left]
theorem rdText_of {most : Int} {s : RS} (hb : ∀ x ∈ s.1, 0 ≤ x ∧ x < 256) (h : (rdText most s).2.2 = false) :
    s.2 = false ∧ s.1 = encT (rdText most s).1 ++ (rdText most s).2.1 ∧ ((rdText most s).1.size : Int) ≤ most := by
  unfold rdText at h ⊢
  by_cases c : most < 0
  · simp [if_pos c, failed] at h
  · simp only [if_neg c] at h ⊢
    by_cases c2 : (rdNum most s).2.2 = true
    · simp only [if_pos c2] at h; rw [c2] at h; cases h
    · simp only [if_neg c2] at h ⊢
      obtain ⟨e1, e2, e3, e4, e5⟩ := rdNum_of hb (by simpa using c2)
      by_cases c3 : ((rdNum most s).2.1.length : Int) < (rdNum most s).1
      · simp [if_pos c3, failed] at h
      · simp only [if_neg c3] at h ⊢
        have hr : ∀ x ∈ (rdNum most s).2.1, 0 ≤ x ∧ x < 256 := fun x hx => hb x (by rw [e2]; exact List.mem_append_right _ hx)
        have hl : ((rdNum most s).2.1.take (rdNum most s).1.toNat).length = (rdNum most s).1.toNat := by rw [List.length_take]; omega
        have hz : ((strOfNums ((rdNum most s).2.1.take (rdNum most s).1.toNat)).size : Int) = (rdNum most s).1 := by rw [str_size, hl]; omega
        refine ⟨e1, ?_, by omega⟩
        rw [encT, hz, bytes_str _ (fun x hx => hr x (List.mem_of_mem_take hx)), List.append_assoc, List.take_append_drop]
        exact e2
theorem rdFlag_of {s : RS} (hb : ∀ x ∈ s.1, 0 ≤ x ∧ x < 256) (h : (rdFlag s).2.2 = false) : s.2 = false ∧ s.1 = encB (rdFlag s).1 ++ (rdFlag s).2.1 := by
  unfold rdFlag at h ⊢
  obtain ⟨e1, e2, e3, e4, e5⟩ := rdNum_of hb h
  refine ⟨e1, ?_⟩
  simp only
  have : (rdNum 1 s).1 = 0 ∨ (rdNum 1 s).1 = 1 := by omega
  rcases this with z | z <;> (rw [z] at e2 ⊢; rw [enc_lt (by decide)] at e2; exact e2)
theorem rdNum_bad {most : Int} {s : RS} (h : s.2 = true) : (rdNum most s).2.2 = true := by unfold rdNum; rw [if_pos h]; exact h
theorem rdText_bad {most : Int} {s : RS} (h : s.2 = true) : (rdText most s).2.2 = true := by
  unfold rdText
  by_cases c : most < 0
  · rw [if_pos c]; rfl
  · rw [if_neg c]; simp only; rw [if_pos (rdNum_bad h)]; exact rdNum_bad h
theorem rdFlag_bad {s : RS} (h : s.2 = true) : (rdFlag s).2.2 = true := rdNum_bad h
theorem rdDone_iff (s : RS) : rdDone s = true ↔ s = ([], false) := by
  obtain ⟨b, f⟩ := s
  cases f <;> simp [rdDone]
theorem strOfNums_one {a b : List Int} (ha : ∀ x ∈ a, 0 ≤ x ∧ x < 256) (hb : ∀ x ∈ b, 0 ≤ x ∧ x < 256) : strOfNums a = strOfNums b ↔ a = b :=
  ⟨fun h => by rw [← bytes_str a ha, ← bytes_str b hb, h], fun h => by rw [h]⟩
end Go.Proofs.Ytcegkljkmnpkaaa.Sep
