/- What node.keys and node.texts come to: plain. Conditions: the bounds of the statements. · What the reference's Split comes to: plain. Conditions: the bounds of the statements. · What More comes to (the program's and the reference's): plain. Conditions: the bounds of the statements. · Which keys end a node: the program's ends and the reference's Ends: plain. Conditions: the bounds of the statements. · node.Split's closure. Conditions: the bounds of the statements. -/
import Derived.Test.YtdbgfmiokmempaaPDatx5
import Derived.Laws.BitsLemmas
namespace Go.Proofs.Ytdbgfmiokmempaa.Sep
set_option linter.unusedSimpArgs false
set_option linter.unusedVariables false
open Go.RowKit Go.Proofs.YtdbgfmiokmempaaW.PrintWords Go.Proofs.YtdbgfmiokmempaaW.PrintLast Go.Proofs.YtdbgfmiokmempaaW.PrintMore
open Go.Proofs.Ytdbgfmiokmempaa.PDat (S27 rd_T27 S60 rd_T60 node_keys.f node_keys.l0 node_keys.l1 node_texts.f node_texts.l0 node_texts.l1 node_Key.f node_Val.f)
abbrev Entry := S27
abbrev Kid := S60
theorem en_at {l : List Entry} (i : Nat) (hi : i < l.length) : rd_T27 l (i : Int) = l[i] := by simp [rd_T27, List.getD, hi]
theorem ki_at {l : List Kid} (i : Nat) (hi : i < l.length) : rd_T60 l (i : Int) = l[i] := by simp [rd_T60, List.getD, hi]
theorem keys_l1 : ∀ (d : Nat) (out : List ByteArray) (l : List Kid) (i : Nat), i + d = l.length → l.length ≤ 1000000 → out.length + d ≤ 8000000 → Ev (fun k => node_keys.l1 k out l l.length i) (out ++ (l.drop i).map (·.f0)) := by
  intro d
  induction d with
  | zero =>
    intro out l i hi hn ho
    rw [List.drop_eq_nil_of_le (by omega)]
    refine Ev.step (f := fun _ => some (out ++ [])) (fun k => ?_) (by simpa using Ev.now out)
    simp only [node_keys.l1]
    rw [if_neg (by omega), List.append_nil]
  | succ d ih =>
    intro out l i hi hn ho
    have ew : wrap64 ((i : Int) + 1) = ((i + 1 : Nat) : Int) := by unfold wrap64; omega
    have h := ih (out ++ [l[i].f0]) l (i + 1) (by omega) hn (by rw [List.length_append]; simp; omega)
    rw [List.append_assoc] at h
    rw [List.drop_eq_getElem_cons (show i < l.length by omega), List.map_cons]
    refine Ev.step (f := fun k => node_keys.l1 k (out ++ [l[i].f0]) l l.length ((i + 1 : Nat) : Int)) (fun k => ?_) h
    simp only [node_keys.l1, ew, ki_at i (show i < l.length by omega)]
    rw [if_pos (by omega), if_pos (by omega), if_pos (by omega), if_pos (by omega)]
theorem keys_l0 (lev : Int) (ks : List Kid) : ∀ (d : Nat) (out : List ByteArray) (l : List Entry) (i : Nat) (es : List Entry), i + d = l.length → l.length ≤ 1000000 → ks.length ≤ 1000000 → out.length + d ≤ 2000000 → Ev (fun k => node_keys.l0 k out l l.length i lev es ks) ((out ++ (l.drop i).map (·.f0)) ++ ks.map (·.f0)) := by
  intro d
  induction d with
  | zero =>
    intro out l i es hi hn hk ho
    rw [List.drop_eq_nil_of_le (by omega), List.map_nil, List.append_nil]
    refine Ev.step (f := fun k => node_keys.l1 k out ks ks.length ((0 : Nat) : Int)) (fun k => ?_) (keys_l1 ks.length out ks 0 (by omega) hk (by omega))
    simp only [node_keys.l0]
    rw [if_neg (by omega)]
    rfl
  | succ d ih =>
    intro out l i es hi hn hk ho
    have ew : wrap64 ((i : Int) + 1) = ((i + 1 : Nat) : Int) := by unfold wrap64; omega
    have h := ih (out ++ [l[i].f0]) l (i + 1) es (by omega) hn hk (by rw [List.length_append]; simp; omega)
    rw [List.append_assoc out] at h
    rw [List.drop_eq_getElem_cons (show i < l.length by omega), List.map_cons]
    refine Ev.step (f := fun k => node_keys.l0 k (out ++ [l[i].f0]) l l.length ((i + 1 : Nat) : Int) lev es ks) (fun k => ?_) h
    simp only [node_keys.l0, ew, en_at i (show i < l.length by omega)]
    rw [if_pos (by omega), if_pos (by omega), if_pos (by omega), if_pos (by omega)]
theorem keys_form (lev : Int) (es : List Entry) (ks : List Kid) (he : es.length ≤ 1000000) (hk : ks.length ≤ 1000000) : Ev (fun k => node_keys.f k lev es ks) (es.map (·.f0) ++ ks.map (·.f0)) := by
  have := keys_l0 lev ks es.length [] es 0 es (by omega) he hk (by simp; omega)
  simp only [node_keys.f]
  simpa using this
def keyE (k : ByteArray) : Int := if (k.size : Int) < 1 then 100 else if (k.size : Int) > 40 then 100 else 0
def valE (v : ByteArray) : Int := if (v.size : Int) > 200 then 101 else 0
theorem key_form (k : ByteArray) : node_Key.f k = some (keyE k) := by
  unfold node_Key.f keyE
  split
  · rfl
  · split <;> rfl
theorem val_form (v : ByteArray) : node_Val.f v = some (valE v) := by
  unfold node_Val.f valE
  split <;> rfl
/-- What is wrong with entries' texts; with children's. -/
def entsE : List Entry → Int
  | [] => 0
  | x :: l => if keyE x.f0 = 0 then (if valE x.f1 = 0 then entsE l else valE x.f1) else keyE x.f0
def kidsE : List Kid → Int
  | [] => 0
  | x :: l => if keyE x.f0 = 0 then kidsE l else keyE x.f0
def textsE (es : List Entry) (ks : List Kid) : Int := if entsE es = 0 then kidsE ks else entsE es
theorem texts_l1 : ∀ (d : Nat) (l : List Kid) (i : Nat), i + d = l.length → l.length ≤ 1000000 → Ev (fun k => node_texts.l1 k l l.length i) (kidsE (l.drop i)) := by
  intro d
  induction d with
  | zero =>
    intro l i hi hn
    rw [List.drop_eq_nil_of_le (by omega)]
    refine Ev.step (f := fun _ => some 0) (fun k => ?_) (Ev.now 0)
    simp only [node_texts.l1]
    rw [if_neg (by omega)]
  | succ d ih =>
    intro l i hi hn
    have ew : wrap64 ((i : Int) + 1) = ((i + 1 : Nat) : Int) := by unfold wrap64; omega
    rw [List.drop_eq_getElem_cons (show i < l.length by omega)]
    by_cases h : keyE l[i].f0 = 0
    · have e : kidsE (l[i] :: l.drop (i + 1)) = kidsE (l.drop (i + 1)) := by simp [kidsE, h]
      rw [e]
      refine Ev.step (f := fun k => node_texts.l1 k l l.length ((i + 1 : Nat) : Int)) (fun k => ?_) (ih l (i + 1) (by omega) hn)
      simp only [node_texts.l1, ew, ki_at i (show i < l.length by omega), key_form, Option.bind_some]
      rw [if_pos (by omega), if_pos (by omega), if_pos (by omega), if_pos h]
    · have e : kidsE (l[i] :: l.drop (i + 1)) = keyE l[i].f0 := by simp [kidsE, h]
      rw [e]
      refine Ev.step (f := fun _ => some (keyE l[i].f0)) (fun k => ?_) (Ev.now _)
      simp only [node_texts.l1, ew, ki_at i (show i < l.length by omega), key_form, Option.bind_some]
      rw [if_pos (by omega), if_pos (by omega), if_pos (by omega), if_neg h]
theorem texts_l0 (lev : Int) (ks : List Kid) (hk : ks.length ≤ 1000000) : ∀ (d : Nat) (l : List Entry) (i : Nat) (es : List Entry), i + d = l.length → l.length ≤ 1000000 → Ev (fun k => node_texts.l0 k l l.length i lev es ks) (textsE (l.drop i) ks) := by
  intro d
  induction d with
  | zero =>
    intro l i es hi hn
    rw [List.drop_eq_nil_of_le (by omega)]
    refine Ev.step (f := fun k => node_texts.l1 k ks ks.length ((0 : Nat) : Int)) (fun k => ?_) (texts_l1 ks.length ks 0 (by omega) hk)
    simp only [node_texts.l0]
    rw [if_neg (by omega)]
    rfl
  | succ d ih =>
    intro l i es hi hn
    have ew : wrap64 ((i : Int) + 1) = ((i + 1 : Nat) : Int) := by unfold wrap64; omega
    rw [List.drop_eq_getElem_cons (show i < l.length by omega)]
    by_cases h : keyE l[i].f0 = 0
    · by_cases h2 : valE l[i].f1 = 0
      · have e : textsE (l[i] :: l.drop (i + 1)) ks = textsE (l.drop (i + 1)) ks := by simp [textsE, entsE, h, h2]
        rw [e]
        refine Ev.step (f := fun k => node_texts.l0 k l l.length ((i + 1 : Nat) : Int) lev es ks) (fun k => ?_) (ih l (i + 1) es (by omega) hn)
        simp only [node_texts.l0, ew, en_at i (show i < l.length by omega), key_form, val_form, Option.bind_some]
        rw [if_pos (by omega), if_pos (by omega), if_pos (by omega), if_pos h, if_pos h2]
      · have e : textsE (l[i] :: l.drop (i + 1)) ks = valE l[i].f1 := by simp [textsE, entsE, h, h2]
        rw [e]
        refine Ev.step (f := fun _ => some (valE l[i].f1)) (fun k => ?_) (Ev.now _)
        simp only [node_texts.l0, ew, en_at i (show i < l.length by omega), key_form, val_form, Option.bind_some]
        rw [if_pos (by omega), if_pos (by omega), if_pos (by omega), if_pos h, if_neg h2]
    · have e : textsE (l[i] :: l.drop (i + 1)) ks = keyE l[i].f0 := by simp [textsE, entsE, h]
      rw [e]
      refine Ev.step (f := fun _ => some (keyE l[i].f0)) (fun k => ?_) (Ev.now _)
      simp only [node_texts.l0, ew, en_at i (show i < l.length by omega), key_form, val_form, Option.bind_some]
      rw [if_pos (by omega), if_pos (by omega), if_pos (by omega), if_neg h]
theorem texts_form (lev : Int) (es : List Entry) (ks : List Kid) (he : es.length ≤ 1000000) (hk : ks.length ≤ 1000000) : Ev (fun k => node_texts.f k lev es ks) (textsE es ks) := texts_l0 lev ks hk es.length es 0 es (by omega) he
end Go.Proofs.Ytdbgfmiokmempaa.Sep
namespace Go.Proofs.Ytdbgfmiokmempaa.Sep
set_option linter.unusedSimpArgs false
set_option linter.unusedVariables false
open Go.RowKit Go.Proofs.YtdbgfmiokmempaaW.PrintWords Go.Proofs.YtdbgfmiokmempaaW.PrintLast Go.Proofs.YtdbgfmiokmempaaW.PrintMore
open Go.Proofs.Ytdbgfmiokmempaa.PDat (S27 rd_T27 S60 rd_T60 apographref09_Split.f apographref09_Split.l0 apographref09_Group.f apographref09_Group.l0 apographref09_Ends.f)
/-- Rows that end where something holds, or at the end. -/
def rowsL {α : Type} (E : α → Bool) : List α → List α → List (List α)
  | _, [] => []
  | row, x :: l => if l.isEmpty || E x then (row ++ [x]) :: rowsL E [] l else rowsL E (row ++ [x]) l
theorem split_loop (E : ByteArray → Bool) : ∀ (d : Nat) (out : List (List Entry)) (row l : List Entry) (i : Nat), (∀ x ∈ l, Ev (fun k => apographref09_Ends.f k 0 x.f0) (E x.f0)) → i + d = l.length → l.length ≤ 1000000 → out.length ≤ i → row.length ≤ i →
    Ev (fun k => apographref09_Split.l0 k l out row l l.length i) (out ++ rowsL (fun x => E x.f0) row (l.drop i)) := by
  intro d
  induction d with
  | zero =>
    intro out row l i hE hi hn ho hr
    rw [List.drop_eq_nil_of_le (by omega)]
    refine Ev.step (f := fun _ => some out) (fun k => ?_) (by simpa [rowsL] using Ev.now out)
    simp only [apographref09_Split.l0]
    rw [if_neg (by omega)]
  | succ d ih =>
    intro out row l i hE hi hn ho hr
    have ew : wrap64 ((i : Int) + 1) = ((i + 1 : Nat) : Int) := by unfold wrap64; omega
    have hx := en_at (l := l) i (by omega)
    rw [List.drop_eq_getElem_cons (show i < l.length by omega)]
    have hmem : l[i]'(show i < l.length by omega) ∈ l := List.getElem_mem _
    generalize l[i] = x at hx hmem
    have he : (⟨x.f0, x.f1⟩ : Entry) = x := rfl
    by_cases hl : i + 1 = l.length
    · have e : rowsL (fun x => E x.f0) row (x :: l.drop (i + 1)) = [row ++ [x]] := by
        rw [List.drop_eq_nil_of_le (by omega)]
        simp [rowsL]
      rw [e]
      have h := ih (out ++ [row ++ [x]]) [] l (i + 1) hE (by omega) hn (by rw [List.length_append]; simp; omega) (by simp)
      rw [List.drop_eq_nil_of_le (by omega), rowsL, List.append_nil] at h
      refine Ev.step (f := fun k => apographref09_Split.l0 k l (out ++ [row ++ [x]]) [] l l.length ((i + 1 : Nat) : Int)) (fun k => ?_) h
      simp only [apographref09_Split.l0, hx, ew, he, Option.bind_some]
      rw [if_pos (by omega), if_pos (by omega), if_pos (by omega), if_pos (by omega), if_pos (by omega), if_pos (by omega)]
    · have hne : (l.drop (i + 1)).isEmpty = false := by
        rw [List.isEmpty_eq_false_iff]
        intro h
        have := congrArg List.length h
        rw [List.length_drop] at this
        simp at this
        omega
      cases hb : E x.f0 with
      | true =>
        have e : rowsL (fun x => E x.f0) row (x :: l.drop (i + 1)) = (row ++ [x]) :: rowsL (fun x => E x.f0) [] (l.drop (i + 1)) := by simp [rowsL, hb]
        rw [e]
        have h := ih (out ++ [row ++ [x]]) [] l (i + 1) hE (by omega) hn (by rw [List.length_append]; simp; omega) (by simp)
        rw [List.append_assoc] at h
        have hEx := hE x hmem
        rw [hb] at hEx
        refine Ev.step (f := fun k => (apographref09_Ends.f k 0 x.f0).bind fun t120 => (if t120 = true then (if out.length < 5864062014805 then (apographref09_Split.l0 k l (out ++ [row ++ [x]]) [] l l.length ((i + 1 : Nat) : Int)) else none) else (apographref09_Split.l0 k l out (row ++ [x]) l l.length ((i + 1 : Nat) : Int)))) (fun k => ?_) ?_
        · simp only [apographref09_Split.l0, hx, ew, he, Option.bind_some]
          rw [if_pos (by omega), if_pos (by omega), if_pos (by omega), if_pos (by omega), if_neg (by omega)]
        · refine Ev.bind hEx ?_
          refine Ev.congr (fun k => ?_) h
          rw [if_pos rfl, if_pos (by omega)]
      | false =>
        have e : rowsL (fun x => E x.f0) row (x :: l.drop (i + 1)) = rowsL (fun x => E x.f0) (row ++ [x]) (l.drop (i + 1)) := by simp only [rowsL, hne, hb]; simp
        rw [e]
        have h := ih out (row ++ [x]) l (i + 1) hE (by omega) hn (by omega) (by rw [List.length_append]; simp; omega)
        have hEx := hE x hmem
        rw [hb] at hEx
        refine Ev.step (f := fun k => (apographref09_Ends.f k 0 x.f0).bind fun t120 => (if t120 = true then (if out.length < 5864062014805 then (apographref09_Split.l0 k l (out ++ [row ++ [x]]) [] l l.length ((i + 1 : Nat) : Int)) else none) else (apographref09_Split.l0 k l out (row ++ [x]) l l.length ((i + 1 : Nat) : Int)))) (fun k => ?_) ?_
        · simp only [apographref09_Split.l0, hx, ew, he, Option.bind_some]
          rw [if_pos (by omega), if_pos (by omega), if_pos (by omega), if_pos (by omega), if_neg (by omega)]
        · refine Ev.bind hEx ?_
          refine Ev.congr (fun k => ?_) h
          rw [if_neg (by decide)]
theorem split_form (E : ByteArray → Bool) (l : List Entry) (hE : ∀ x ∈ l, Ev (fun k => apographref09_Ends.f k 0 x.f0) (E x.f0)) (hn : l.length ≤ 1000000) : Ev (fun k => apographref09_Split.f k l) (rowsL (fun x => E x.f0) [] l) := by
  have := split_loop E l.length [] [] l 0 hE (by omega) hn (by simp) (by simp)
  simp only [apographref09_Split.f]
  simpa using this
theorem group_loop (E : ByteArray → Bool) (lev : Int) : ∀ (d : Nat) (out : List (List Kid)) (row l : List Kid) (i : Nat), (∀ x ∈ l, Ev (fun k => apographref09_Ends.f k lev x.f0) (E x.f0)) → i + d = l.length → l.length ≤ 1000000 → out.length ≤ i → row.length ≤ i →
    Ev (fun k => apographref09_Group.l0 k lev l out row l l.length i) (out ++ rowsL (fun x => E x.f0) row (l.drop i)) := by
  intro d
  induction d with
  | zero =>
    intro out row l i hE hi hn ho hr
    rw [List.drop_eq_nil_of_le (by omega)]
    refine Ev.step (f := fun _ => some out) (fun k => ?_) (by simpa [rowsL] using Ev.now out)
    simp only [apographref09_Group.l0]
    rw [if_neg (by omega)]
  | succ d ih =>
    intro out row l i hE hi hn ho hr
    have ew : wrap64 ((i : Int) + 1) = ((i + 1 : Nat) : Int) := by unfold wrap64; omega
    have hx := ki_at (l := l) i (by omega)
    rw [List.drop_eq_getElem_cons (show i < l.length by omega)]
    have hmem : l[i]'(show i < l.length by omega) ∈ l := List.getElem_mem _
    generalize l[i] = x at hx hmem
    have he : (⟨x.f0, x.f1⟩ : Kid) = x := rfl
    by_cases hl : i + 1 = l.length
    · have e : rowsL (fun x => E x.f0) row (x :: l.drop (i + 1)) = [row ++ [x]] := by
        rw [List.drop_eq_nil_of_le (by omega)]
        simp [rowsL]
      rw [e]
      have h := ih (out ++ [row ++ [x]]) [] l (i + 1) hE (by omega) hn (by rw [List.length_append]; simp; omega) (by simp)
      rw [List.drop_eq_nil_of_le (by omega), rowsL, List.append_nil] at h
      refine Ev.step (f := fun k => apographref09_Group.l0 k lev l (out ++ [row ++ [x]]) [] l l.length ((i + 1 : Nat) : Int)) (fun k => ?_) h
      simp only [apographref09_Group.l0, hx, ew, he, Option.bind_some]
      rw [if_pos (by omega), if_pos (by omega), if_pos (by omega), if_pos (by omega), if_pos (by omega), if_pos (by omega)]
    · have hne : (l.drop (i + 1)).isEmpty = false := by
        rw [List.isEmpty_eq_false_iff]
        intro h
        have := congrArg List.length h
        rw [List.length_drop] at this
        simp at this
        omega
      cases hb : E x.f0 with
      | true =>
        have e : rowsL (fun x => E x.f0) row (x :: l.drop (i + 1)) = (row ++ [x]) :: rowsL (fun x => E x.f0) [] (l.drop (i + 1)) := by simp [rowsL, hb]
        rw [e]
        have h := ih (out ++ [row ++ [x]]) [] l (i + 1) hE (by omega) hn (by rw [List.length_append]; simp; omega) (by simp)
        rw [List.append_assoc] at h
        have hEx := hE x hmem
        rw [hb] at hEx
        refine Ev.step (f := fun k => (apographref09_Ends.f k lev x.f0).bind fun t120 => (if t120 = true then (if out.length < 5864062014805 then (apographref09_Group.l0 k lev l (out ++ [row ++ [x]]) [] l l.length ((i + 1 : Nat) : Int)) else none) else (apographref09_Group.l0 k lev l out (row ++ [x]) l l.length ((i + 1 : Nat) : Int)))) (fun k => ?_) ?_
        · simp only [apographref09_Group.l0, hx, ew, he, Option.bind_some]
          rw [if_pos (by omega), if_pos (by omega), if_pos (by omega), if_pos (by omega), if_neg (by omega)]
        · refine Ev.bind hEx ?_
          refine Ev.congr (fun k => ?_) h
          rw [if_pos rfl, if_pos (by omega)]
      | false =>
        have e : rowsL (fun x => E x.f0) row (x :: l.drop (i + 1)) = rowsL (fun x => E x.f0) (row ++ [x]) (l.drop (i + 1)) := by simp only [rowsL, hne, hb]; simp
        rw [e]
        have h := ih out (row ++ [x]) l (i + 1) hE (by omega) hn (by omega) (by rw [List.length_append]; simp; omega)
        have hEx := hE x hmem
        rw [hb] at hEx
        refine Ev.step (f := fun k => (apographref09_Ends.f k lev x.f0).bind fun t120 => (if t120 = true then (if out.length < 5864062014805 then (apographref09_Group.l0 k lev l (out ++ [row ++ [x]]) [] l l.length ((i + 1 : Nat) : Int)) else none) else (apographref09_Group.l0 k lev l out (row ++ [x]) l l.length ((i + 1 : Nat) : Int)))) (fun k => ?_) ?_
        · simp only [apographref09_Group.l0, hx, ew, he, Option.bind_some]
          rw [if_pos (by omega), if_pos (by omega), if_pos (by omega), if_pos (by omega), if_neg (by omega)]
        · refine Ev.bind hEx ?_
          refine Ev.congr (fun k => ?_) h
          rw [if_neg (by decide)]
theorem group_form (E : ByteArray → Bool) (lev : Int) (l : List Kid) (hE : ∀ x ∈ l, Ev (fun k => apographref09_Ends.f k lev x.f0) (E x.f0)) (hn : l.length ≤ 1000000) : Ev (fun k => apographref09_Group.f k lev l) (rowsL (fun x => E x.f0) [] l) := by
  have := group_loop E lev l.length [] [] l 0 hE (by omega) hn (by simp) (by simp)
  simp only [apographref09_Group.f]
  simpa using this
end Go.Proofs.Ytdbgfmiokmempaa.Sep
namespace Go.Proofs.Ytdbgfmiokmempaa.Sep
set_option linter.unusedSimpArgs false
set_option linter.unusedVariables false
open Go.RowKit Go.Proofs.YtdbgfmiokmempaaW.PrintWords Go.Proofs.YtdbgfmiokmempaaW.PrintLast Go.Proofs.YtdbgfmiokmempaaW.PrintMore
open Go.Proofs.Ytdbgfmiokmempaa.PDat (apographref01_More.f apographref01_More.l0 fnv_More.f fnv_More.l0)
/-- A byte more. -/
def stepF (h x : Int) : Int := IntKind.u64.wrap ((Go.bits .xor .u64 h (IntKind.u64.wrap x)) * 1099511628211)
/-- A text more. -/
def moreF (h : Int) (s : ByteArray) : Int := (bytesOf s).foldl stepF h
theorem drop_bt (s : ByteArray) (i : Nat) (hi : i < s.size) : (bytesOf s).drop i = bt s i :: (bytesOf s).drop (i + 1) := by
  have hl : i < (bytesOf s).length := by rw [bytesOf_length]; exact hi
  rw [List.drop_eq_getElem_cons hl, ← rd_bytesOf]
  simp [rd, hl]
theorem rmore_loop : ∀ (d : Nat) (h : Int) (s : ByteArray) (i : Nat), i + d = s.size → s.size ≤ 140737488355328 → Ev (fun k => apographref01_More.l0 k h s i) (((bytesOf s).drop i).foldl stepF h) := by
  intro d
  induction d with
  | zero =>
    intro h s i hi hn
    rw [List.drop_eq_nil_of_le (by rw [bytesOf_length]; omega)]
    refine Ev.step (f := fun _ => some h) (fun k => ?_) (Ev.now _)
    simp only [apographref01_More.l0]
    rw [if_neg (by omega)]
  | succ d ih =>
    intro h s i hi hn
    have ew : wrap64 ((i : Int) + 1) = ((i + 1 : Nat) : Int) := by unfold wrap64; omega
    rw [drop_bt s i (by omega), List.foldl_cons]
    refine Ev.step (f := fun k => apographref01_More.l0 k (stepF h (bt s i)) s ((i + 1 : Nat) : Int)) (fun k => ?_) (ih _ s (i + 1) (by omega) hn)
    simp only [apographref01_More.l0, ew, stepF]
    rw [if_pos (by omega), if_pos (by omega)]
theorem pmore_loop : ∀ (d : Nat) (h : Int) (s : ByteArray) (i : Nat), i + d = s.size → s.size ≤ 140737488355328 → Ev (fun k => fnv_More.l0 k h s s.size i) (((bytesOf s).drop i).foldl stepF h) := by
  intro d
  induction d with
  | zero =>
    intro h s i hi hn
    rw [List.drop_eq_nil_of_le (by rw [bytesOf_length]; omega)]
    refine Ev.step (f := fun _ => some h) (fun k => ?_) (Ev.now _)
    simp only [fnv_More.l0]
    rw [if_neg (by omega)]
  | succ d ih =>
    intro h s i hi hn
    have ew : wrap64 ((i : Int) + 1) = ((i + 1 : Nat) : Int) := by unfold wrap64; omega
    rw [drop_bt s i (by omega), List.foldl_cons]
    refine Ev.step (f := fun k => fnv_More.l0 k (stepF h (bt s i)) s s.size ((i + 1 : Nat) : Int)) (fun k => ?_) (ih _ s (i + 1) (by omega) hn)
    simp only [fnv_More.l0, ew, stepF]
    rw [if_pos (by omega), if_pos (by omega), if_pos (by omega)]
theorem rmore_form (h : Int) (s : ByteArray) (hn : s.size ≤ 140737488355328) : Ev (fun k => apographref01_More.f k h s) (moreF h s) := rmore_loop s.size h s 0 (by omega) hn
theorem pmore_form (h : Int) (s : ByteArray) (hn : s.size ≤ 140737488355328) : Ev (fun k => fnv_More.f k h s) (moreF h s) := pmore_loop s.size h s 0 (by omega) hn
end Go.Proofs.Ytdbgfmiokmempaa.Sep
namespace Go.Proofs.Ytdbgfmiokmempaa.Sep.Ends
set_option linter.unusedSimpArgs false
set_option linter.unusedVariables false
open Go.RowKit Go.Proofs.YtdbgfmiokmempaaW.PrintWords Go.Proofs.YtdbgfmiokmempaaW.PrintLast Go.Proofs.YtdbgfmiokmempaaW.PrintMore
open Go.Proofs.Ytdbgfmiokmempaa.PDat (apographref01_Sum.f apographref01_Ends.f apographref09_Ends.f fnv_Sum.f fnv_Ends.f node_ends.f)
theorem u64_wrap (n : Int) : IntKind.u64.wrap n = n % 18446744073709551616 := by
  rw [IntKind.wrap_u64]
theorem u64_in (n : Int) (h0 : 0 ≤ n) (h1 : n < 2 ^ 64) : IntKind.u64.wrap n = n := by
  rw [u64_wrap]; omega
theorem and_3072 (a : Nat) : a &&& 3072 = (a / 1024 % 4) * 1024 := by
  apply Nat.eq_of_testBit_eq
  intro i
  rw [Nat.testBit_and, show (1024 : Nat) = 2 ^ 10 by decide, Nat.testBit_mul_two_pow, show (4 : Nat) = 2 ^ 2 by decide, Nat.testBit_mod_two_pow, Nat.testBit_div_two_pow]
  rw [show (3072 : Nat) = 3 * 2 ^ 10 by decide, Nat.testBit_mul_two_pow]
  by_cases h : 10 ≤ i
  · obtain ⟨j, rfl⟩ : ∃ j, i = j + 10 := ⟨i - 10, by omega⟩
    have h3 : Nat.testBit 3 j = decide (j < 2) := by
      rw [show (3 : Nat) = 2 ^ 2 - 1 by decide, Nat.testBit_two_pow_sub_one]
    simp [h3, Bool.and_comm]
  · simp [h]
theorem and_test (t : Int) (h0 : 0 ≤ t) (h1 : t < 18446744073709551616) : ((Int.tmod (IntKind.u64.wrap (Int.tdiv t 1024)) 4) == 0) = ((Go.bits .and .u64 t 3072) == 0) := by
  obtain ⟨a, rfl⟩ := Int.eq_ofNat_of_zero_le h0
  have ha : a < 2 ^ 64 := by omega
  have hb := (bits_nat .u64 64 (by decide) u64_in a 3072 ha (by decide)).1
  have hb' : Go.bits .and .u64 (a : Int) 3072 = ((a &&& 3072 : Nat) : Int) := hb
  rw [hb', and_3072, Int.tdiv_eq_ediv_of_nonneg h0, u64_wrap, Int.tmod_eq_emod_of_nonneg (by omega), Bool.eq_iff_iff]
  simp only [beq_iff_eq]
  omega

/-- Whether a key ends a node of a level. -/
def endsB (lev : Int) (key : ByteArray) : Bool := if lev < 20 then (Go.bits .and .u64 (moreF (moreF 14695981039346656037 (strOfNums [lev % 256])) key) 3072) == 0 else false
theorem step_in (h x : Int) : 0 ≤ stepF h x ∧ stepF h x < 18446744073709551616 := by
  unfold stepF
  rw [u64_wrap]
  omega
theorem fold_in : ∀ (l : List Int) (h : Int), (0 ≤ h ∧ h < 18446744073709551616) → 0 ≤ l.foldl stepF h ∧ l.foldl stepF h < 18446744073709551616
  | [], h, hh => hh
  | x :: l, h, _ => fold_in l _ (step_in h x)
theorem one_size (x : Int) : (strOfNums [x]).size = 1 := by simp [strOfNums, ByteArray.size]
theorem rends_form (lev : Int) (key : ByteArray) (hn : key.size ≤ 140737488355328) : Ev (fun k => apographref09_Ends.f k lev key) (endsB lev key) := by
  unfold endsB
  by_cases h : lev < 20
  · rw [if_pos h]
    refine Ev.congr (f := fun k => (apographref01_Ends.f k lev key).bind fun t => some t) (fun k => by simp only [apographref09_Ends.f]; rw [if_pos h]) ?_
    refine Ev.bind (a := (Go.bits .and .u64 (moreF (moreF 14695981039346656037 (strOfNums [lev % 256])) key) 3072) == 0) ?_ (Ev.now _)
    refine Ev.congr (f := fun k => (apographref01_Sum.f k (strOfNums ([lev % 256] : List Int))).bind fun t109 => ((Go.Proofs.Ytdbgfmiokmempaa.PDat.apographref01_More.f k t109 key).bind fun t110 => (some ((Go.bits .and .u64 t110 3072) == 0)))) (fun k => rfl) ?_
    refine Ev.bind (a := moreF 14695981039346656037 (strOfNums [lev % 256])) ?_ (Ev.bind (rmore_form _ key hn) (Ev.now _))
    exact Ev.congr (f := fun k => (Go.Proofs.Ytdbgfmiokmempaa.PDat.apographref01_More.f k 14695981039346656037 (strOfNums [lev % 256])).bind fun t => some t) (fun k => rfl) (Ev.bind (rmore_form _ _ (by rw [one_size]; decide)) (Ev.now _))
  · rw [if_neg h]
    exact Ev.congr (f := fun _ => some false) (fun k => by simp only [apographref09_Ends.f]; rw [if_neg h]) (Ev.now _)
theorem pends_form (lev : Int) (key : ByteArray) (hn : key.size ≤ 140737488355328) : Ev (fun k => node_ends.f k lev key) (endsB lev key) := by
  unfold endsB
  by_cases h : lev < 20
  · rw [if_pos h]
    have hin : 0 ≤ moreF (moreF 14695981039346656037 (strOfNums [lev % 256])) key ∧ moreF (moreF 14695981039346656037 (strOfNums [lev % 256])) key < 18446744073709551616 := fold_in (bytesOf key) (moreF 14695981039346656037 (strOfNums [lev % 256])) (fold_in (bytesOf (strOfNums [lev % 256])) 14695981039346656037 ⟨by decide, by decide⟩)
    refine Ev.congr (f := fun k => (fnv_Ends.f k lev key).bind fun t => some t) (fun k => by simp only [node_ends.f]; rw [if_pos h]) ?_
    refine Ev.bind (a := (Go.bits .and .u64 (moreF (moreF 14695981039346656037 (strOfNums [lev % 256])) key) 3072) == 0) ?_ (Ev.now _)
    refine Ev.congr (f := fun k => (fnv_Sum.f k (strOfNums ([lev % 256] : List Int))).bind fun t150 => ((Go.Proofs.Ytdbgfmiokmempaa.PDat.fnv_More.f k t150 key).bind fun t151 => (some ((Int.tmod (IntKind.u64.wrap (Int.tdiv t151 1024)) 4) == 0)))) (fun k => rfl) ?_
    rw [← and_test _ hin.1 hin.2]
    refine Ev.bind (a := moreF 14695981039346656037 (strOfNums [lev % 256])) ?_ (Ev.bind (pmore_form _ key hn) (Ev.now _))
    exact Ev.congr (f := fun k => (Go.Proofs.Ytdbgfmiokmempaa.PDat.fnv_More.f k 14695981039346656037 (strOfNums [lev % 256])).bind fun t => some t) (fun k => rfl) (Ev.bind (pmore_form _ _ (by rw [one_size]; decide)) (Ev.now _))
  · rw [if_neg h]
    exact Ev.congr (f := fun _ => some false) (fun k => by simp only [node_ends.f]; rw [if_neg h]) (Ev.now _)
end Go.Proofs.Ytdbgfmiokmempaa.Sep.Ends
namespace Go.Proofs.Ytdbgfmiokmempaa.Sep
set_option linter.unusedSimpArgs false
set_option linter.unusedVariables false
open Go.RowKit Go.Proofs.YtdbgfmiokmempaaW.PrintWords Go.Proofs.YtdbgfmiokmempaaW.PrintLast Go.Proofs.YtdbgfmiokmempaaW.PrintMore
open Go.Proofs.Ytdbgfmiokmempaa.PDat (node_ends.f node_ends.calls)
open Ends (endsB pends_form)
theorem ends_calls (lev : Int) (key : ByteArray) (w : World) (hn : key.size ≤ 140737488355328) : Calls Try.prog 32 #[.int .i64 lev, .string key] w fun e w' => e = .returned (.bool (endsB lev key)) ∧ Below w.heap.size w w' := by
  obtain ⟨k, h⟩ := Ev.rounds (pends_form lev key hn)
  exact node_ends.calls k lev key _ w h
set_option maxHeartbeats 1000000 in
theorem split1_calls (k v : ByteArray) (W : World) (hn : k.size ≤ 140737488355328) : Calls Try.prog 31 #[.agg #[.string k, .string v]] W fun e W1 => e = .returned (.bool (endsB 0 k)) ∧ Below W.heap.size W W1 := by
  have H := Aside0.mk (fun w => ends_calls 0 k w hn)
  have huE := Try.underlying27
  go_enter Try.func31, Try.ntmps31
  go_wp2_with (go_at_call 32; refine (H.out _).mono ?_; rintro e w1 ⟨rfl, hb⟩; have HB := Aside0.mk (below_step (below_alloc (Below.refl _ _) _) hb); clear hb)
  go_ret
  exact ⟨rfl, HB.out⟩
end Go.Proofs.Ytdbgfmiokmempaa.Sep
